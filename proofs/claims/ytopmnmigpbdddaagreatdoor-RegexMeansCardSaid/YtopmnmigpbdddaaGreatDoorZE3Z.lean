/- Part of the proofs over this seat: see the text that holds the theorem. Conditions: each theorem bears its own. -/
import Derived.Test.YtopmnmigpbdddaaGreatDoorMK5Z
import Derived.Test.YtopmnmigpbdddaaGreatDoorHTZ
import Derived.Test.YtopmnmigpbdddaaGreatDoorMT3Z
namespace Go.Proofs.YtopmnmigpbdddaaGreatDoor
open Go Go.HL Go.Proofs Go.HL.Kl Go.HL.Kl.Mc Go.HL.Kl.Mc.AskE
set_option maxHeartbeats 2000000 in
theorem step_fnM (K : MeE) (hK : K.ok) (y : Nd) (js : F) (hE : K.EndsT y js) (at_ i1 : Nat) (hp : Part K.re (.nd y js .nil) at_ i1) (fa : Option Addr) (fc : Nat) (fr : List Bool) (S : Nat → Prop) (hS : IsS fr K.w.length S) (σ0 : MeS) (hI0 : K.Inv σ0) : HL.Fn Tryz.prog 66 [pt K.bM, .int .i64 at_, .slice fa fr.length fc] (fun W => K.Env W ((K.bM, .cells [.slice K.ra K.re.length K.rc, .slice K.ta K.w.length K.tc, .slice K.ma K.sls.length K.mc, .slice σ0.sa σ0.ss.length σ0.sc].toArray 132 (0, 0)) :: (σ0.SR ++ (σ0.SS ++ σ0.Pool))) ∧ Rd Ebo W (.slice fa fr.length fc) fr ∧ Apart (keys ((K.bM, .cells [.slice K.ra K.re.length K.rc, .slice K.ta K.w.length K.tc, .slice K.ma K.sls.length K.mc, .slice σ0.sa σ0.ss.length σ0.sc].toArray 132 (0, 0)) :: (σ0.SR ++ (σ0.SS ++ σ0.Pool)))) (.slice fa fr.length fc)) ((K.bM, .cells [.slice K.ra K.re.length K.rc, .slice K.ta K.w.length K.tc, .slice K.ma K.sls.length K.mc, .slice σ0.sa σ0.ss.length σ0.sc].toArray 132 (0, 0)) :: (σ0.SR ++ (σ0.SS ++ σ0.Pool))) (K.OutQ at_ i1 (img (der1 K.w y js) S) σ0) := by
  refine fn_of Tryz.func66 rfl rfl rfl fun w0 hw => ?_
  have hwl := hK.wl
  have hts := hw.1.d2.sl
  have hfs := hw.2.1.sl
  have hfl := hS.len
  have hple := hp.le
  refine c_seq fun _ hK1 => ?_; refine c_region ?_; refine o_step rfl (s_assign rfl) ?_; refine o_nil ?_; refine x_then (hK1 _ _ ?_); refine c_seq fun _ hK2 => ?_; refine c_region ?_; refine o_step rfl (s_move rfl) ?_; refine o_step rfl (s_nil rfl) ?_; refine o_step rfl (s_field rfl rfl (by decide)) ?_; refine o_step rfl (s_ld rfl (.own meA rfl)) ?_; refine o_step rfl (s_len rfl) ?_; refine o_step rfl (s_add rfl rfl (by omega)) ?_; refine o_make (E := Ebo) (zx := false) (n := K.w.length + 1) rfl rfl rfl (by omega) (by omega) rfl fun b15 S15 hS15 => ?_
  have hS15s := hS15.sl
  rw [List.length_replicate] at hS15s
  refine o_step rfl (s_assign rfl) ?_; refine o_nil ?_; refine x_then (hK2 _ _ ?_); refine c_seq fun _ hK3 => ?_; refine c_seq fun _ hK4 => ?_; refine c_region ?_; refine o_step rfl (s_assign rfl) ?_; refine o_nil ?_; refine x_then (hK4 _ _ ?_); refine c_block ?_; refine c_loop4 (fun (k : Nat) (l : List Bool) (So : Hp) (σ : MeS) => k ≤ K.w.length + 1 ∧ OwnS Ebo 1 4 (.slice (some ⟨b15, 0, none⟩) (K.w.length + 1) (K.w.length + 1)) l So ∧ IsS l K.w.length (fun q => ∃ p, p < k ∧ S p ∧ der1 K.w y js p q) ∧ K.Ext at_ i1 σ0 σ) (fun (k : Nat) (l : List Bool) (So : Hp) (σ : MeS) => [(8, .int .i64 k)]) [(0, _), (1, _), (2, _), (6, _), (7, _)] (fun (k : Nat) (l : List Bool) (So : Hp) (σ : MeS) => (K.bM, .cells [.slice K.ra K.re.length K.rc, .slice K.ta K.w.length K.tc, .slice K.ma K.sls.length K.mc, .slice σ.sa σ.ss.length σ.sc].toArray 132 (0, 0)) :: (So ++ (σ.SR ++ (σ.SS ++ σ.Pool)))) (fun (k : Nat) (l : List Bool) (So : Hp) (σ : MeS) => K.w.length + 1 - k) 0 _ S15 σ0 ⟨Nat.zero_le _, hS15, IsS.none.iff fun q _ => ⟨False.elim, fun ⟨_, h, _⟩ => absurd h (Nat.not_lt_zero _)⟩, .refl hI0⟩ sbA sbA hzB ?_
  rintro k l So σ ⟨hk, hO, hIs, hX⟩
  have hll := hIs.len
  refine c_seq fun _ hK5 => ?_; refine c_seq fun _ hK6 => ?_; refine c_region ?_; refine o_step rfl (s_move rfl) ?_; refine o_step rfl (s_move rfl) ?_; refine o_step rfl (s_len rfl) ?_
  by_cases hkl : (k : Int) < fr.length
  ·
   refine o_step rfl (step_cast (v' := .bool true) (s_lss rfl rfl) (by rw [decide_eq_true (by omega)])) ?_; refine o_nil ?_; refine x_then (hK6 _ _ ?_); refine c_true rfl ?_; refine c_skip ?_; refine x_then (hK5 _ _ ?_); refine c_seq fun _ hK7 => ?_; refine c_block ?_; refine c_seq fun _ hK8 => ?_; refine c_region ?_; refine o_step rfl (s_move rfl) ?_; refine o_step rfl (s_move rfl) ?_; refine o_step rfl (s_idx rfl rfl hfs (by omega)) ?_
   by_cases hb : bo0 fr k = true
   ·
    have hbS : S k := (hS.get k (by omega)).1 (bo0_true.1 hb)
    refine o_step rfl (step_cast (v' := .bool true) (s_ld rfl ((RdK.old hw.2.1 hw.2.2).ld k 0 (bo0_get (by omega)) rfl (by decide) (by omega))) (by rw [hb])) ?_; refine o_nil ?_; refine x_then (hK8 _ _ ?_); refine c_true rfl ?_; refine c_region ?_; refine o_step rfl (s_move rfl) ?_; refine o_step rfl (s_move rfl) ?_; refine o_step rfl (s_move rfl) ?_; refine o_step rfl (s_move rfl) ?_; refine o_call (hE at_ i1 hp k (by omega) σ hX.inv) rfl rfl rfl ((Pick.takeC pkA (Pick.takeA pkA pkA))) (fun _ st => ⟨(RdK.old hw.1.d1 hw.1.a1).out _ st, St.apart_M st (by exact hiB) hw.1.d1 hw.1.a1 (by decide), (RdK.old hw.1.d2 hw.1.a2).out _ st, St.apart_M st (by exact hiB) hw.1.d2 hw.1.a2 (by decide), (RdK.old hw.1.d3 hw.1.a3).out _ st, St.apart_M st (by exact hiB) hw.1.d3 hw.1.a3 (by decide)⟩) (fun v30 S30 ⟨a30, c30, l30, S030, σ30, hv30, hS30, hO30, hi30, hI30, hX30⟩ => ?_); subst hv30
    subst hS30
    have hl30 := hI30.len
    refine o_call (orM2_fn (some ⟨b15, 0, none⟩) _ _ l hll So hO a30 c30 l30 hl30 (by omega)) rfl rfl rfl pkA (fun _ st => ⟨((hO30.rds.mono hi30).rdk hiA).out _ st, St.apart st pkA hO30 (fun p hp => (show HIn σ30.Pool _ from by exact hiB) p (hi30 p hp))⟩) (fun v31 So31 ⟨hv31, hO31⟩ => ?_); subst hv31
    refine o_nil ?_; refine x_block ?_; refine x_then (hK7 _ _ ?_); refine c_region ?_; refine o_step rfl (s_move rfl) ?_; refine o_step rfl (s_add rfl rfl (by omega)) ?_; refine o_step rfl (s_assign rfl) ?_; refine o_nil ?_; exact x_then (x_inv (k + 1, orL l l30, So31, σ30) ⟨by dsimp only; omega, hO31, hIs.upto hbS hI30, hX.trans hX30 (Nat.le_refl _) (Nat.le_refl _)⟩ (by first | omega | (dsimp only; omega)) sbA hzB)
   ·
    have hbS : ¬ S k := fun h => hb (bo0_true.2 ((hS.get k (by omega)).2 h))
    refine o_step rfl (step_cast (v' := .bool false) (s_ld rfl ((RdK.old hw.2.1 hw.2.2).ld k 0 (bo0_get (by omega)) rfl (by decide) (by omega))) (by rw [Bool.eq_false_iff.2 hb])) ?_; refine o_nil ?_; refine x_then (hK8 _ _ ?_); refine c_false rfl ?_; refine c_skip ?_; refine x_block ?_; refine x_then (hK7 _ _ ?_); refine c_region ?_; refine o_step rfl (s_move rfl) ?_; refine o_step rfl (s_add rfl rfl (by omega)) ?_; refine o_step rfl (s_assign rfl) ?_; refine o_nil ?_; exact x_then (x_inv (k + 1, l, So, σ) ⟨by dsimp only; omega, hO, hIs.upto_no hbS, hX⟩ (by first | omega | (dsimp only; omega)) sbA hzB)
  ·
   obtain rfl : k = K.w.length + 1 := by omega
   refine o_step rfl (step_cast (v' := .bool false) (s_lss rfl rfl) (by rw [decide_eq_false (by omega)])) ?_; refine o_nil ?_; refine x_then (hK6 _ _ ?_); refine c_false rfl ?_; refine c_exit ?_; refine x_then_exit ?_; refine x_then_exit ?_; refine x_block_exit ?_; refine x_then (hK3 _ _ ?_); refine c_seq fun _ hK9 => ?_; refine c_region ?_; refine o_step rfl (s_move rfl) ?_; refine o_step rfl (s_assign rfl) ?_; refine o_nil ?_; refine x_then (hK9 _ _ ?_); refine c_ret ?_; refine ?_; refine x_sub (Sub.refl _) (H' := (K.bM, .cells [.slice K.ra K.re.length K.rc, .slice K.ta K.w.length K.tc, .slice K.ma K.sls.length K.mc, .slice σ.sa σ.ss.length σ.sc].toArray 132 (0, 0)) :: (So ++ (σ.SR ++ (σ.SS ++ σ.Pool)))) hzB ?_; exact x_ret rfl (.tmp rfl (.nil)) (⟨some ⟨b15, 0, none⟩, K.w.length + 1, l, So, σ, by rw [hll]; rfl, rfl, by rw [hll]; exact hO, hIs.upto_all, hX⟩)
end Go.Proofs.YtopmnmigpbdddaaGreatDoor

/- Part of the proofs over this seat: see the text that holds the theorem. Conditions: each theorem bears its own. -/
namespace Go.HL.Kl.Mc
open Go Go.HL Go.HL.Kl
def zN : Nd := ⟨0, 0, 0, 0, 0, 0⟩
theorem En_zero : En zN = [.int .i8 0, .int .u64 0, .int .u64 0, .int .u64 0, .int .u64 0, .int .i64 0, .int .i64 0, .int .i64 0, .int .i64 0] := by
  show _ :: (Ec 0#256 ++ _) = _
  rw [Ec_zero]; rfl
def zr (x : Nd) : Nd := ⟨0, if x.op = 1 then 0 else x.set, if x.op = 7 ∨ x.op = 8 then 0 else x.n, if x.op = 6 then 0 else x.mn, if x.op = 6 then 0 else x.mx, 0⟩
theorem zr_iff {x : Nd} : zr x = zN ↔ (x.op = 1 ∨ x.set = 0) ∧ (x.op = 7 ∨ x.op = 8 ∨ x.n = 0) ∧ (x.op = 6 ∨ x.mn = 0 ∧ x.mx = 0) := by
  simp only [zr, zN, Nd.mk.injEq, true_and, and_true]
  by_cases h1 : x.op = 1
  · simp [h1]
  by_cases h6 : x.op = 6
  · simp [h6]
  by_cases h7 : x.op = 7
  · simp [h7]
  by_cases h8 : x.op = 8
  · simp [h8]
  · simp [h1, h6, h7, h8]
theorem ndOk_zr {x : Nd} (h : zr x ≠ zN) : ndOk x = false := by
  cases hb : ndOk x
  · rfl
  exfalso
  apply h
  rw [zr_iff]
  simp only [ndOk, flds, Bool.and_eq_true, Bool.or_eq_true, decide_eq_true_eq] at hb
  obtain ⟨⟨⟨⟨_, h1⟩, h2⟩, h3⟩, _⟩ := hb
  refine ⟨h1, by rcases h2 with h2 | h2 <;> omega, ?_⟩
  by_cases h6 : x.op = 6
  · exact .inl h6
  · rw [if_neg h6] at h3; simp at h3; exact .inr h3
theorem ndOk_kidsOk {x : Nd} (h1 : 1 ≤ x.op ∧ x.op ≤ 8) (h2 : x.op = 6 → 0 ≤ x.mn ∧ x.mn ≤ 255 ∧ (x.mx = -1 ∨ x.mn ≤ x.mx ∧ x.mx ≤ 255)) (hz : zr x = zN) : ndOk x = kidsOk x := by
  rw [zr_iff] at hz
  obtain ⟨a, b, c⟩ := hz
  have : flds x = true := by
    simp only [flds, Bool.and_eq_true, Bool.or_eq_true, decide_eq_true_eq]
    refine ⟨⟨⟨h1, a⟩, by omega⟩, ?_⟩
    by_cases h6 : x.op = 6
    · rw [if_pos h6]; simpa using h2 h6
    · rw [if_neg h6]; simp; omega
  rw [ndOk, this, Bool.true_and]
theorem ndOk_rep {x : Nd} (h6 : x.op = 6) (h : ¬ (0 ≤ x.mn ∧ x.mn ≤ 255 ∧ (x.mx = -1 ∨ x.mn ≤ x.mx ∧ x.mx ≤ 255))) : ndOk x = false := by
  cases hb : ndOk x
  · rfl
  · exact absurd (rep_flds hb h6) h
theorem ndOk_op {x : Nd} (h : ¬ (1 ≤ x.op ∧ x.op ≤ 8)) : ndOk x = false := by
  rw [ndOk, flds, decide_eq_false h]; simp
end Go.HL.Kl.Mc
namespace Go.Proofs.YtopmnmigpbdddaaGreatDoor
open Go Go.HL Go.Proofs Go.HL.Kl Go.HL.Kl.Mc
set_option maxHeartbeats 1000000 in
theorem ndOk_fn (x : Nd) : HL.Fn Tryz.prog 139 [.agg (En x).toArray] (fun _ => True) [] (fun v _ => v = .bool (ndOk x)) := by
  refine fn_of Tryz.func139 rfl rfl rfl fun w0 hw => ?_; refine c_seq fun _ hK1 => ?_; refine c_region ?_; refine o_box rfl rfl rfl fun b1 => ?_; refine o_step rfl (s_assign rfl) ?_; refine o_nil ?_; refine x_then (hK1 _ _ ?_); refine c_seq fun _ hK2 => ?_; refine c_region ?_; refine o_step rfl (s_ldB rfl (RdPK.cels (.own meA)) lnA) ?_; refine o_alloc (l := En zN) (by rw [En_zero]; rfl) rfl fun b3 => ?_; refine o_stW rfl rfl upA lnA lnA onA ?_; refine o_nil ?_; refine x_then (hK2 _ _ ?_); refine c_seq fun _ hK3 => ?_; refine c_region ?_; refine o_step rfl (s_field rfl rfl (by decide)) ?_; refine o_store rfl rfl rfl upA ltA rfl ?_
  rw [show (En x).set 0 (.int .i8 0) = En (⟨0, x.set, x.n, x.mn, x.mx, x.kids⟩ : Nd) from rfl]
  refine o_step rfl (s_field rfl rfl (by decide)) ?_; refine o_store rfl rfl rfl upA ltA rfl ?_
  rw [show (En (⟨0, x.set, x.n, x.mn, x.mx, x.kids⟩ : Nd)).set 8 (.int .i64 0) = En (⟨0, x.set, x.n, x.mn, x.mx, 0⟩ : Nd) from rfl]
  refine o_nil ?_; refine x_then (hK3 _ _ ?_); refine c_seqJ (ι := Unit) (fun g => (1 ≤ x.op ∧ x.op ≤ 8) ∧ (x.op = 6 → 0 ≤ x.mn ∧ x.mn ≤ 255 ∧ (x.mx = -1 ∨ x.mn ≤ x.mx ∧ x.mx ≤ 255))) (fun g => []) [(1, _), (3, _)] (fun g => [(b3, .cells (En (zr x)).toArray 108 (0, 0)), (b1, .cells (En x).toArray 108 (0, 0))]) sbA ?_ ?_
  ·
   rintro g hI
   refine c_seq fun _ hK5 => ?_; refine c_seq fun _ hK6 => ?_; refine c_region ?_; refine o_step rfl (s_ldB rfl (RdPK.cels (.own meA)) lnA) ?_; refine o_step rfl (step_cast (v' := .agg (En zN).toArray) (s_build (cs := [_, _, _, _, _, _, _, _, _]) (vs := []) rfl rfl .nil) (by rw [En_zero])) ?_
   by_cases hz : zr x ≠ zN
   ·
    refine o_step rfl (step_cast (v' := .bool true) (s_neq_nd rfl rfl) (by rw [decide_eq_false hz]; rfl)) ?_; refine o_nil ?_; refine x_then (hK6 _ _ ?_); refine c_true rfl ?_; refine c_seq fun _ hK7 => ?_; refine c_region ?_; refine o_step rfl (s_assign rfl) ?_; refine o_nil ?_; refine x_then (hK7 _ _ ?_); refine c_ret ?_; refine x_then_ret (?_); exact x_ret rfl (.tmp rfl (.nil)) ((congrArg Value.bool (ndOk_zr hz).symm))
   ·
    have hk := ndOk_kidsOk hI.1 hI.2 (Decidable.not_not.1 hz)
    unfold kidsOk at hk
    refine o_step rfl (step_cast (v' := .bool false) (s_neq_nd rfl rfl) (by rw [decide_eq_true (Decidable.not_not.1 hz)]; rfl)) ?_; refine o_nil ?_; refine x_then (hK6 _ _ ?_); refine c_false rfl ?_; refine c_skip ?_; refine x_then (hK5 _ _ ?_); refine c_seq fun _ hK8 => ?_; refine c_seq fun _ hK9 => ?_; refine c_region ?_; refine o_step rfl (s_field rfl rfl (by decide)) ?_; refine o_step rfl (s_ld rfl (.own meA rfl)) ?_; refine o_nil ?_; refine x_then (hK9 _ _ ?_); refine c_block ?_; refine c_seq fun _ hK10 => ?_; refine c_seq fun _ hK11 => ?_; refine c_region ?_
    by_cases k6 : x.op = 6
    ·
     refine o_step rfl (step_cast (v' := .bool true) (s_eql rfl rfl) (by rw [decide_eq_true k6])) ?_; refine o_step rfl (s_assign rfl) ?_; refine o_nil ?_; refine x_then (hK11 _ _ ?_); refine c_true rfl ?_; refine c_skip ?_; refine x_then (hK10 _ _ ?_); refine c_true rfl ?_; refine c_seq fun _ hK12 => ?_; refine c_region ?_; refine o_step rfl (s_field rfl rfl (by decide)) ?_; refine o_step rfl (s_ld rfl (.own meA rfl)) ?_; refine o_step rfl (s_eql rfl rfl) ?_; refine o_step rfl (s_assign rfl) ?_; refine o_nil ?_; refine x_then (hK12 _ _ ?_); refine c_ret ?_; refine x_block_ret (x_then_ret (?_))
     exact x_ret rfl (.tmp rfl (.nil)) ((congrArg Value.bool (by rw [hk, if_pos (.inl k6)])))
    ·
     refine o_step rfl (step_cast (v' := .bool false) (s_eql rfl rfl) (by rw [decide_eq_false k6])) ?_; refine o_step rfl (s_assign rfl) ?_; refine o_nil ?_; refine x_then (hK11 _ _ ?_); refine c_false rfl ?_; refine c_region ?_
     by_cases k7 : x.op = 7
     ·
      refine o_step rfl (step_cast (v' := .bool true) (s_eql rfl rfl) (by rw [decide_eq_true k7])) ?_; refine o_step rfl (s_assign rfl) ?_; refine o_nil ?_; refine x_then (hK10 _ _ ?_); refine c_true rfl ?_; refine c_seq fun _ hK13 => ?_; refine c_region ?_; refine o_step rfl (s_field rfl rfl (by decide)) ?_; refine o_step rfl (s_ld rfl (.own meA rfl)) ?_; refine o_step rfl (s_eql rfl rfl) ?_; refine o_step rfl (s_assign rfl) ?_; refine o_nil ?_; refine x_then (hK13 _ _ ?_); refine c_ret ?_; refine x_block_ret (x_then_ret (?_))
      exact x_ret rfl (.tmp rfl (.nil)) ((congrArg Value.bool (by rw [hk, if_pos (.inr k7)])))
     ·
      refine o_step rfl (step_cast (v' := .bool false) (s_eql rfl rfl) (by rw [decide_eq_false k7])) ?_; refine o_step rfl (s_assign rfl) ?_; refine o_nil ?_; refine x_then (hK10 _ _ ?_); refine c_false rfl ?_; refine c_seq fun _ hK14 => ?_; refine c_region ?_
      by_cases k5 : x.op = 5
      ·
       refine o_step rfl (step_cast (v' := .bool true) (s_eql rfl rfl) (by rw [decide_eq_true k5])) ?_; refine o_step rfl (s_assign rfl) ?_; refine o_nil ?_; refine x_then (hK14 _ _ ?_); refine c_true rfl ?_; refine c_seq fun _ hK15 => ?_; refine c_region ?_; refine o_step rfl (s_field rfl rfl (by decide)) ?_; refine o_step rfl (s_ld rfl (.own meA rfl)) ?_; refine o_step rfl (s_geq rfl rfl) ?_; refine o_step rfl (s_assign rfl) ?_; refine o_nil ?_; refine x_then (hK15 _ _ ?_); refine c_ret ?_; refine x_block_ret (x_then_ret (?_))
       exact x_ret rfl (.tmp rfl (.nil)) ((congrArg Value.bool (by rw [hk, if_neg (by omega), if_neg (by omega), if_pos k5])))
      ·
       refine o_step rfl (step_cast (v' := .bool false) (s_eql rfl rfl) (by rw [decide_eq_false k5])) ?_; refine o_step rfl (s_assign rfl) ?_; refine o_nil ?_; refine x_then (hK14 _ _ ?_); refine c_false rfl ?_; refine c_seq fun _ hK16 => ?_; refine c_region ?_
       by_cases k4 : x.op = 4
       ·
        refine o_step rfl (step_cast (v' := .bool true) (s_eql rfl rfl) (by rw [decide_eq_true k4])) ?_; refine o_step rfl (s_assign rfl) ?_; refine o_nil ?_; refine x_then (hK16 _ _ ?_); refine c_true rfl ?_; refine c_seq fun _ hK17 => ?_; refine c_region ?_; refine o_step rfl (s_field rfl rfl (by decide)) ?_; refine o_step rfl (s_ld rfl (.own meA rfl)) ?_
        by_cases k0 : x.kids = 0
        ·
         refine o_step rfl (step_cast (v' := .bool true) (s_eql rfl rfl) (by rw [decide_eq_true (by omega)])) ?_; refine o_step rfl (s_move rfl) ?_; refine o_no rfl rfl rfl rfl ?_; refine o_no rfl rfl rfl rfl ?_; refine o_no rfl rfl rfl rfl ?_; refine o_step rfl (s_pick_t rfl rfl) ?_; refine o_step rfl (s_assign rfl) ?_; refine o_nil ?_; refine x_then (hK17 _ _ ?_); refine c_ret ?_; refine x_block_ret (x_then_ret (?_))
         exact x_ret rfl (.tmp rfl (.nil)) ((congrArg Value.bool (by rw [hk, if_neg (by omega), if_pos k4, decide_eq_true (by omega)])))
        ·
         refine o_step rfl (step_cast (v' := .bool false) (s_eql rfl rfl) (by rw [decide_eq_false (by omega)])) ?_; refine o_step rfl (s_move rfl) ?_; refine o_yes rfl rfl ?_; refine o_step rfl (s_field rfl rfl (by decide)) ?_; refine o_yes rfl rfl ?_; refine o_step rfl (s_ld rfl (.own meA rfl)) ?_; refine o_yes rfl rfl ?_; refine o_step rfl (s_geq rfl rfl) ?_; refine o_step rfl (s_pick_f rfl rfl) ?_; refine o_step rfl (s_assign rfl) ?_; refine o_nil ?_; refine x_then (hK17 _ _ ?_); refine c_ret ?_; refine x_block_ret (x_then_ret (?_))
         exact x_ret rfl (.tmp rfl (.nil)) ((congrArg Value.bool (by rw [hk, if_neg (by omega), if_pos k4]; exact decide_eq_decide.2 (by omega))))
       ·
        refine o_step rfl (step_cast (v' := .bool false) (s_eql rfl rfl) (by rw [decide_eq_false k4])) ?_; refine o_step rfl (s_assign rfl) ?_; refine o_nil ?_; refine x_then (hK16 _ _ ?_); refine c_false rfl ?_; refine c_skip ?_; refine x_block ?_; refine x_then (hK8 _ _ ?_); refine c_seq fun _ hK18 => ?_; refine c_region ?_; refine o_step rfl (s_field rfl rfl (by decide)) ?_; refine o_step rfl (s_ld rfl (.own meA rfl)) ?_; refine o_step rfl (s_eql rfl rfl) ?_; refine o_step rfl (s_assign rfl) ?_; refine o_nil ?_; refine x_then (hK18 _ _ ?_); refine c_ret ?_; refine ?_; exact x_ret rfl (.tmp rfl (.nil)) ((congrArg Value.bool (by rw [hk, if_neg (by omega), if_neg (by omega), if_neg (by omega)])))
  ·
   intro _ hJ4
   refine c_seq fun _ hK19 => ?_; refine c_region ?_; refine o_step rfl (s_field rfl rfl (by decide)) ?_; refine o_step rfl (s_ld rfl (.own meA rfl)) ?_; refine o_nil ?_; refine x_then (hK19 _ _ ?_); refine c_block ?_; refine c_seq fun _ hK20 => ?_; refine c_region ?_
   by_cases h1 : x.op = 1
   ·
    refine o_step rfl (step_cast (v' := .bool true) (s_eql rfl rfl) (by rw [decide_eq_true h1])) ?_; refine o_step rfl (s_assign rfl) ?_; refine o_nil ?_; refine x_then (hK20 _ _ ?_); refine c_true rfl ?_; refine c_region ?_; refine o_step rfl (step_cast (v' := .agg (Ec 0#256).toArray) (s_build0 rfl) (by rw [Ec_zero]; rfl)) ?_; refine o_step rfl (s_field rfl rfl (by decide)) ?_; refine o_storeA (l := En (⟨0, x.set, x.n, x.mn, x.mx, 0⟩ : Nd)) (cs := Ec 0#256) rfl rfl rfl (Enc.one _) upA (Nat.le_of_ble_eq_true rfl) (fun _ _ => frz0) ?_
    rw [show splice (En (⟨0, x.set, x.n, x.mn, x.mx, 0⟩ : Nd)) 1 (Ec 0#256) = En (⟨0, 0, x.n, x.mn, x.mx, 0⟩ : Nd) from rfl]
    refine o_nil ?_; refine x_block ?_
    rw [show (⟨0, 0, x.n, x.mn, x.mx, 0⟩ : Nd) = zr x by rw [zr, if_pos h1, if_neg (by omega), if_neg (by omega), if_neg (by omega)]]
    exact x_then (hJ4 () _ _ ⟨by omega, fun h => absurd h (by omega)⟩ sbA sbA hzB)
   ·
    refine o_step rfl (step_cast (v' := .bool false) (s_eql rfl rfl) (by rw [decide_eq_false h1])) ?_; refine o_step rfl (s_assign rfl) ?_; refine o_nil ?_; refine x_then (hK20 _ _ ?_); refine c_false rfl ?_; refine c_seq fun _ hK21 => ?_; refine c_seq fun _ hK22 => ?_; refine c_region ?_
    by_cases h7 : x.op = 7
    ·
     refine o_step rfl (step_cast (v' := .bool true) (s_eql rfl rfl) (by rw [decide_eq_true h7])) ?_; refine o_step rfl (s_assign rfl) ?_; refine o_nil ?_; refine x_then (hK22 _ _ ?_); refine c_true rfl ?_; refine c_skip ?_; refine x_then (hK21 _ _ ?_); refine c_true rfl ?_; refine c_region ?_; refine o_step rfl (s_field rfl rfl (by decide)) ?_; refine o_store rfl rfl rfl upA ltA rfl ?_
     rw [show (En (⟨0, x.set, x.n, x.mn, x.mx, 0⟩ : Nd)).set 5 (.int .i64 0) = En (⟨0, x.set, 0, x.mn, x.mx, 0⟩ : Nd) from rfl]
     refine o_nil ?_; refine x_block ?_
     rw [show (⟨0, x.set, 0, x.mn, x.mx, 0⟩ : Nd) = zr x by rw [zr, if_neg (by omega), if_pos (.inl h7), if_neg (by omega), if_neg (by omega)]]
     exact x_then (hJ4 () _ _ ⟨by omega, fun h => absurd h (by omega)⟩ sbA sbA hzB)
    ·
     refine o_step rfl (step_cast (v' := .bool false) (s_eql rfl rfl) (by rw [decide_eq_false h7])) ?_; refine o_step rfl (s_assign rfl) ?_; refine o_nil ?_; refine x_then (hK22 _ _ ?_); refine c_false rfl ?_; refine c_region ?_
     by_cases h8 : x.op = 8
     ·
      refine o_step rfl (step_cast (v' := .bool true) (s_eql rfl rfl) (by rw [decide_eq_true h8])) ?_; refine o_step rfl (s_assign rfl) ?_; refine o_nil ?_; refine x_then (hK21 _ _ ?_); refine c_true rfl ?_; refine c_region ?_; refine o_step rfl (s_field rfl rfl (by decide)) ?_; refine o_store rfl rfl rfl upA ltA rfl ?_
      rw [show (En (⟨0, x.set, x.n, x.mn, x.mx, 0⟩ : Nd)).set 5 (.int .i64 0) = En (⟨0, x.set, 0, x.mn, x.mx, 0⟩ : Nd) from rfl]
      refine o_nil ?_; refine x_block ?_
      rw [show (⟨0, x.set, 0, x.mn, x.mx, 0⟩ : Nd) = zr x by rw [zr, if_neg (by omega), if_pos (.inr h8), if_neg (by omega), if_neg (by omega)]]
      exact x_then (hJ4 () _ _ ⟨by omega, fun h => absurd h (by omega)⟩ sbA sbA hzB)
     ·
      refine o_step rfl (step_cast (v' := .bool false) (s_eql rfl rfl) (by rw [decide_eq_false h8])) ?_; refine o_step rfl (s_assign rfl) ?_; refine o_nil ?_; refine x_then (hK21 _ _ ?_); refine c_false rfl ?_; refine c_seq fun _ hK23 => ?_; refine c_region ?_
      by_cases h6 : x.op = 6
      ·
       refine o_step rfl (step_cast (v' := .bool true) (s_eql rfl rfl) (by rw [decide_eq_true h6])) ?_; refine o_step rfl (s_assign rfl) ?_; refine o_nil ?_; refine x_then (hK23 _ _ ?_); refine c_true rfl ?_; refine c_seq fun _ hK24 => ?_; refine c_seq fun _ hK25 => ?_; refine c_region ?_; refine o_step rfl (s_field rfl rfl (by decide)) ?_; refine o_step rfl (s_ld rfl (.own meA rfl)) ?_
       by_cases hm1 : x.mn < 0
       ·
        refine o_step rfl (step_cast (v' := .bool true) (s_lss rfl rfl) (by rw [decide_eq_true (by omega)])) ?_; refine o_step rfl (s_move rfl) ?_; refine o_no rfl rfl rfl rfl ?_; refine o_no rfl rfl rfl rfl ?_; refine o_no rfl rfl rfl rfl ?_; refine o_step rfl (s_pick_t rfl rfl) ?_; refine o_step rfl (s_move rfl) ?_; refine o_no rfl rfl rfl rfl ?_; refine o_no rfl rfl rfl rfl ?_; refine o_no rfl rfl rfl rfl ?_; refine o_no rfl rfl rfl rfl ?_; refine o_noU rfl rfl rfl ?_; refine o_noU rfl rfl rfl ?_; refine o_noU rfl rfl rfl ?_; refine o_noU rfl rfl rfl ?_; refine o_noU rfl rfl rfl ?_; refine o_noU rfl rfl rfl ?_; refine o_noU rfl rfl rfl ?_; refine o_noU rfl rfl rfl ?_; refine o_noU rfl rfl rfl ?_; refine o_noU rfl rfl rfl ?_; refine o_no rfl rfl rfl rfl ?_; refine o_step rfl (s_pick_t rfl rfl) ?_; refine o_nil ?_; refine x_then (hK25 _ _ ?_); refine c_true rfl ?_; refine c_seq fun _ hK26 => ?_
        refine c_region ?_; refine o_step rfl (s_assign rfl) ?_; refine o_nil ?_; refine x_then (hK26 _ _ ?_); refine c_ret ?_; refine x_then_ret (x_block_ret (x_then_ret (?_)))
        exact x_ret rfl (.tmp rfl (.nil)) ((congrArg Value.bool (ndOk_rep h6 (by omega)).symm))
       ·
        refine o_step rfl (step_cast (v' := .bool false) (s_lss rfl rfl) (by rw [decide_eq_false (by omega)])) ?_; refine o_step rfl (s_move rfl) ?_; refine o_yes rfl rfl ?_; refine o_step rfl (s_field rfl rfl (by decide)) ?_; refine o_yes rfl rfl ?_; refine o_step rfl (s_ld rfl (.own meA rfl)) ?_; refine o_yes rfl rfl ?_
        by_cases hm2 : x.mn > 255
        ·
         refine o_step rfl (step_cast (v' := .bool true) (s_gtr rfl rfl) (by rw [decide_eq_true (by omega)])) ?_; refine o_step rfl (s_pick_f rfl rfl) ?_; refine o_step rfl (s_move rfl) ?_; refine o_no rfl rfl rfl rfl ?_; refine o_no rfl rfl rfl rfl ?_; refine o_no rfl rfl rfl rfl ?_; refine o_no rfl rfl rfl rfl ?_; refine o_noU rfl rfl rfl ?_; refine o_noU rfl rfl rfl ?_; refine o_noU rfl rfl rfl ?_; refine o_noU rfl rfl rfl ?_; refine o_noU rfl rfl rfl ?_; refine o_noU rfl rfl rfl ?_; refine o_noU rfl rfl rfl ?_; refine o_noU rfl rfl rfl ?_; refine o_noU rfl rfl rfl ?_; refine o_noU rfl rfl rfl ?_; refine o_no rfl rfl rfl rfl ?_; refine o_step rfl (s_pick_t rfl rfl) ?_; refine o_nil ?_; refine x_then (hK25 _ _ ?_); refine c_true rfl ?_; refine c_seq fun _ hK27 => ?_; refine c_region ?_; refine o_step rfl (s_assign rfl) ?_; refine o_nil ?_; refine x_then (hK27 _ _ ?_); refine c_ret ?_; refine x_then_ret (x_block_ret (x_then_ret (?_)))
         exact x_ret rfl (.tmp rfl (.nil)) ((congrArg Value.bool (ndOk_rep h6 (by omega)).symm))
        ·
         refine o_step rfl (step_cast (v' := .bool false) (s_gtr rfl rfl) (by rw [decide_eq_false (by omega)])) ?_; refine o_step rfl (s_pick_f rfl rfl) ?_; refine o_step rfl (s_move rfl) ?_; refine o_yes rfl rfl ?_; refine o_step rfl (s_field rfl rfl (by decide)) ?_; refine o_yes rfl rfl ?_; refine o_step rfl (s_ld rfl (.own meA rfl)) ?_; refine o_yes rfl rfl ?_
         by_cases hm3 : x.mx ≠ -1
         ·
          refine o_step rfl (step_cast (v' := .bool true) (s_neq rfl rfl) (by rw [decide_eq_true (by omega)])) ?_; refine o_yes rfl rfl ?_; refine o_step rfl (s_move rfl) ?_; refine o_yes rfl rfl ?_; refine o_step rfl (s_field rfl rfl (by decide)) ?_; refine o_yes rfl rfl ?_; refine o_step rfl (s_ld rfl (.own meA rfl)) ?_; refine o_yes rfl rfl ?_; refine o_step rfl (s_field rfl rfl (by decide)) ?_; refine o_yes rfl rfl ?_; refine o_step rfl (s_ld rfl (.own meA rfl)) ?_; refine o_yes rfl rfl ?_
          by_cases hm4 : x.mx < x.mn
          ·
           refine o_step rfl (step_cast (v' := .bool true) (s_lss rfl rfl) (by rw [decide_eq_true (by omega)])) ?_; refine o_yes rfl rfl ?_; refine o_step rfl (s_move rfl) ?_; refine o_no rfl rfl rfl rfl ?_; refine o_no rfl rfl rfl rfl ?_; refine o_no rfl rfl rfl rfl ?_; refine o_yes rfl rfl ?_; refine o_step rfl (s_pick_t rfl rfl) ?_; refine o_yes rfl rfl ?_; refine o_step rfl (s_pick_t rfl rfl) ?_; refine o_step rfl (s_pick_f rfl rfl) ?_; refine o_nil ?_; refine x_then (hK25 _ _ ?_); refine c_true rfl ?_; refine c_seq fun _ hK28 => ?_; refine c_region ?_; refine o_step rfl (s_assign rfl) ?_; refine o_nil ?_; refine x_then (hK28 _ _ ?_); refine c_ret ?_; refine x_then_ret (x_block_ret (x_then_ret (?_)))
           exact x_ret rfl (.tmp rfl (.nil)) ((congrArg Value.bool (ndOk_rep h6 (by omega)).symm))
          ·
           refine o_step rfl (step_cast (v' := .bool false) (s_lss rfl rfl) (by rw [decide_eq_false (by omega)])) ?_; refine o_yes rfl rfl ?_; refine o_step rfl (s_move rfl) ?_; refine o_yes rfl rfl ?_; refine o_step rfl (s_field rfl rfl (by decide)) ?_; refine o_yes rfl rfl ?_; refine o_step rfl (s_ld rfl (.own meA rfl)) ?_; refine o_yes rfl rfl ?_
           by_cases hm5 : x.mx > 255
           ·
            refine o_step rfl (step_cast (v' := .bool true) (s_gtr rfl rfl) (by rw [decide_eq_true (by omega)])) ?_; refine o_yes rfl rfl ?_; refine o_step rfl (s_pick_f rfl rfl) ?_; refine o_yes rfl rfl ?_; refine o_step rfl (s_pick_t rfl rfl) ?_; refine o_step rfl (s_pick_f rfl rfl) ?_; refine o_nil ?_; refine x_then (hK25 _ _ ?_); refine c_true rfl ?_; refine c_seq fun _ hK29 => ?_; refine c_region ?_; refine o_step rfl (s_assign rfl) ?_; refine o_nil ?_; refine x_then (hK29 _ _ ?_); refine c_ret ?_; refine x_then_ret (x_block_ret (x_then_ret (?_)))
            exact x_ret rfl (.tmp rfl (.nil)) ((congrArg Value.bool (ndOk_rep h6 (by omega)).symm))
           ·
            refine o_step rfl (step_cast (v' := .bool false) (s_gtr rfl rfl) (by rw [decide_eq_false (by omega)])) ?_; refine o_yes rfl rfl ?_; refine o_step rfl (s_pick_f rfl rfl) ?_; refine o_yes rfl rfl ?_; refine o_step rfl (s_pick_t rfl rfl) ?_; refine o_step rfl (s_pick_f rfl rfl) ?_; refine o_nil ?_; refine x_then (hK25 _ _ ?_); refine c_false rfl ?_; refine c_skip ?_; refine x_then (hK24 _ _ ?_); refine c_region ?_; refine o_step rfl (s_field rfl rfl (by decide)) ?_; refine o_store rfl rfl rfl upA ltA rfl ?_
            rw [show (En (⟨0, x.set, x.n, x.mn, x.mx, 0⟩ : Nd)).set 6 (.int .i64 0) = En (⟨0, x.set, x.n, 0, x.mx, 0⟩ : Nd) from rfl]
            refine o_step rfl (s_field rfl rfl (by decide)) ?_; refine o_store rfl rfl rfl upA ltA rfl ?_
            rw [show (En (⟨0, x.set, x.n, 0, x.mx, 0⟩ : Nd)).set 7 (.int .i64 0) = En (⟨0, x.set, x.n, 0, 0, 0⟩ : Nd) from rfl]
            refine o_nil ?_; refine x_block ?_
            rw [show (⟨0, x.set, x.n, 0, 0, 0⟩ : Nd) = zr x by rw [zr, if_neg (by omega), if_neg (by omega), if_pos h6, if_pos h6]]
            exact x_then (hJ4 () _ _ ⟨by omega, fun h => by omega⟩ sbA sbA hzB)
         ·
          refine o_step rfl (step_cast (v' := .bool false) (s_neq rfl rfl) (by rw [decide_eq_false (by omega)])) ?_; refine o_yes rfl rfl ?_; refine o_step rfl (s_move rfl) ?_; refine o_no rfl rfl rfl rfl ?_; refine o_no rfl rfl rfl rfl ?_; refine o_no rfl rfl rfl rfl ?_; refine o_no rfl rfl rfl rfl ?_; refine o_no rfl rfl rfl rfl ?_; refine o_no rfl rfl rfl rfl ?_; refine o_noU rfl rfl rfl ?_; refine o_noU rfl rfl rfl ?_; refine o_noU rfl rfl rfl ?_; refine o_no rfl rfl rfl rfl ?_; refine o_yes rfl rfl ?_; refine o_step rfl (s_pick_f rfl rfl) ?_; refine o_step rfl (s_pick_f rfl rfl) ?_; refine o_nil ?_; refine x_then (hK25 _ _ ?_); refine c_false rfl ?_; refine c_skip ?_; refine x_then (hK24 _ _ ?_); refine c_region ?_; refine o_step rfl (s_field rfl rfl (by decide)) ?_; refine o_store rfl rfl rfl upA ltA rfl ?_
          rw [show (En (⟨0, x.set, x.n, x.mn, x.mx, 0⟩ : Nd)).set 6 (.int .i64 0) = En (⟨0, x.set, x.n, 0, x.mx, 0⟩ : Nd) from rfl]
          refine o_step rfl (s_field rfl rfl (by decide)) ?_; refine o_store rfl rfl rfl upA ltA rfl ?_
          rw [show (En (⟨0, x.set, x.n, 0, x.mx, 0⟩ : Nd)).set 7 (.int .i64 0) = En (⟨0, x.set, x.n, 0, 0, 0⟩ : Nd) from rfl]
          refine o_nil ?_; refine x_block ?_
          rw [show (⟨0, x.set, x.n, 0, 0, 0⟩ : Nd) = zr x by rw [zr, if_neg (by omega), if_neg (by omega), if_pos h6, if_pos h6]]
          exact x_then (hJ4 () _ _ ⟨by omega, fun h => by omega⟩ sbA sbA hzB)
      ·
       refine o_step rfl (step_cast (v' := .bool false) (s_eql rfl rfl) (by rw [decide_eq_false h6])) ?_; refine o_step rfl (s_assign rfl) ?_; refine o_nil ?_; refine x_then (hK23 _ _ ?_); refine c_false rfl ?_; refine c_seq fun _ hK30 => ?_; refine c_seq fun _ hK31 => ?_; refine c_region ?_
       by_cases h2 : x.op = 2
       ·
        refine o_step rfl (step_cast (v' := .bool true) (s_eql rfl rfl) (by rw [decide_eq_true h2])) ?_; refine o_step rfl (s_assign rfl) ?_; refine o_nil ?_; refine x_then (hK31 _ _ ?_); refine c_true rfl ?_; refine c_skip ?_; refine x_then (hK30 _ _ ?_); refine c_true rfl ?_; refine c_skip ?_; refine x_block ?_
        rw [show (⟨0, x.set, x.n, x.mn, x.mx, 0⟩ : Nd) = zr x by rw [zr, if_neg (by omega), if_neg (by omega), if_neg (by omega), if_neg (by omega)]]
        exact x_then (hJ4 () _ _ ⟨by omega, fun h => absurd h (by omega)⟩ sbA sbA hzB)
       ·
        refine o_step rfl (step_cast (v' := .bool false) (s_eql rfl rfl) (by rw [decide_eq_false h2])) ?_; refine o_step rfl (s_assign rfl) ?_; refine o_nil ?_; refine x_then (hK31 _ _ ?_); refine c_false rfl ?_; refine c_seq fun _ hK32 => ?_; refine c_region ?_
        by_cases h3 : x.op = 3
        ·
         refine o_step rfl (step_cast (v' := .bool true) (s_eql rfl rfl) (by rw [decide_eq_true h3])) ?_; refine o_step rfl (s_assign rfl) ?_; refine o_nil ?_; refine x_then (hK32 _ _ ?_); refine c_true rfl ?_; refine c_skip ?_; refine x_then (hK30 _ _ ?_); refine c_true rfl ?_; refine c_skip ?_; refine x_block ?_
         rw [show (⟨0, x.set, x.n, x.mn, x.mx, 0⟩ : Nd) = zr x by rw [zr, if_neg (by omega), if_neg (by omega), if_neg (by omega), if_neg (by omega)]]
         exact x_then (hJ4 () _ _ ⟨by omega, fun h => absurd h (by omega)⟩ sbA sbA hzB)
        ·
         refine o_step rfl (step_cast (v' := .bool false) (s_eql rfl rfl) (by rw [decide_eq_false h3])) ?_; refine o_step rfl (s_assign rfl) ?_; refine o_nil ?_; refine x_then (hK32 _ _ ?_); refine c_false rfl ?_; refine c_seq fun _ hK33 => ?_; refine c_region ?_
         by_cases h4 : x.op = 4
         ·
          refine o_step rfl (step_cast (v' := .bool true) (s_eql rfl rfl) (by rw [decide_eq_true h4])) ?_; refine o_step rfl (s_assign rfl) ?_; refine o_nil ?_; refine x_then (hK33 _ _ ?_); refine c_true rfl ?_; refine c_skip ?_; refine x_then (hK30 _ _ ?_); refine c_true rfl ?_; refine c_skip ?_; refine x_block ?_
          rw [show (⟨0, x.set, x.n, x.mn, x.mx, 0⟩ : Nd) = zr x by rw [zr, if_neg (by omega), if_neg (by omega), if_neg (by omega), if_neg (by omega)]]
          exact x_then (hJ4 () _ _ ⟨by omega, fun h => absurd h (by omega)⟩ sbA sbA hzB)
         ·
          refine o_step rfl (step_cast (v' := .bool false) (s_eql rfl rfl) (by rw [decide_eq_false h4])) ?_; refine o_step rfl (s_assign rfl) ?_; refine o_nil ?_; refine x_then (hK33 _ _ ?_); refine c_false rfl ?_; refine c_region ?_
          by_cases h5 : x.op = 5
          ·
           refine o_step rfl (step_cast (v' := .bool true) (s_eql rfl rfl) (by rw [decide_eq_true h5])) ?_; refine o_step rfl (s_assign rfl) ?_; refine o_nil ?_; refine x_then (hK30 _ _ ?_); refine c_true rfl ?_; refine c_skip ?_; refine x_block ?_
           rw [show (⟨0, x.set, x.n, x.mn, x.mx, 0⟩ : Nd) = zr x by rw [zr, if_neg (by omega), if_neg (by omega), if_neg (by omega), if_neg (by omega)]]
           exact x_then (hJ4 () _ _ ⟨by omega, fun h => absurd h (by omega)⟩ sbA sbA hzB)
          ·
           refine o_step rfl (step_cast (v' := .bool false) (s_eql rfl rfl) (by rw [decide_eq_false h5])) ?_; refine o_step rfl (s_assign rfl) ?_; refine o_nil ?_; refine x_then (hK30 _ _ ?_); refine c_false rfl ?_; refine c_seq fun _ hK34 => ?_; refine c_region ?_; refine o_step rfl (s_assign rfl) ?_; refine o_nil ?_; refine x_then (hK34 _ _ ?_); refine c_ret ?_; refine x_block_ret (x_then_ret (?_))
           exact x_ret rfl (.tmp rfl (.nil)) ((congrArg Value.bool (ndOk_op (by omega)).symm))
end Go.Proofs.YtopmnmigpbdddaaGreatDoor

/- Part of the proofs over this seat: see the text that holds the theorem. Conditions: each theorem bears its own. -/
namespace Go.Proofs.YtopmnmigpbdddaaGreatDoor
open Go Go.HL Go.Proofs Go.HL.Kl Go.HL.Kl.Mc Go.HL.Kl.Mc.AskE
theorem rounds_fixed2 {N k : Nat} {x : Nd} {D : Nat → Nat → Prop} {S : Nat → Prop} (h0 : 0 ≤ x.mn) (hkx : x.mx = -1 ∨ (k : Int) ≤ x.mx) (hk : x.mn.toNat ≤ k) (hS : ∀ p, S p → p ≤ N) (hD : Inn N D) (h : ∀ q, q ≤ N → img (pow D (k + 1)) S q → upTo D S x.mn.toNat k q) (q : Nat) : upTo D S x.mn.toNat k q ↔ img (rounds x D) S q := by
  rw [img_rounds h0]
  constructor
  · rintro ⟨j, h1, h2, h3⟩; exact ⟨j, h1, hkx.imp id fun h => by omega, h3⟩
  · rintro ⟨j, h1, _, h3⟩; exact upTo_fix hS hD hk h q ⟨j, h1, h3⟩
set_option maxHeartbeats 4000000 in
theorem rounds_fnM (K : MeE) (hK : K.ok) (x y : Nd) (js : F) (hSt : K.StepT y js) (at_ i1 : Nat) (h6 : x.op = 6) (hp : Part K.re (.nd x (.nd y js .nil) .nil) at_ i1) (fa : Option Addr) (fc : Nat) (fr : List Bool) (Sh : Hp) (S : Nat → Prop) (hOf : OwnS Ebo 1 4 (.slice fa fr.length fc) fr Sh) (hS : IsS fr K.w.length S) (hSb : ∀ p, S p → p ≤ K.w.length) (σ0 : MeS) (hI0 : K.Inv σ0) : HL.Fn Tryz.prog 65 [pt K.bM, .int .i64 at_, .slice fa fr.length fc] (fun W => K.Env W ((K.bM, .cells [.slice K.ra K.re.length K.rc, .slice K.ta K.w.length K.tc, .slice K.ma K.sls.length K.mc, .slice σ0.sa σ0.ss.length σ0.sc].toArray 132 (0, 0)) :: (Sh ++ (σ0.SR ++ (σ0.SS ++ σ0.Pool))))) ((K.bM, .cells [.slice K.ra K.re.length K.rc, .slice K.ta K.w.length K.tc, .slice K.ma K.sls.length K.mc, .slice σ0.sa σ0.ss.length σ0.sc].toArray 132 (0, 0)) :: (Sh ++ (σ0.SR ++ (σ0.SS ++ σ0.Pool)))) (K.OutQ (at_ + 1) i1 (img (rounds x (der1 K.w y js)) S) σ0) := by
  refine fn_of Tryz.func65 rfl rfl rfl fun w0 hw => ?_
  have hwl := hK.wl
  have hrl := hK.rl
  have hres := hw.d1.sl
  have hfl := hS.len
  have hple := hp.le
  have hpl := hp.len
  obtain ⟨hx, hpk, _⟩ := hp.head
  have hxz : (F.nd y js .nil).size = 1 + js.size := by simp only [F.size]; omega
  have hxy : (F.nd x (F.nd y js .nil) .nil).size = 2 + js.size := by simp only [F.size]; omega
  have hat := (List.getElem?_eq_some_iff.1 hx).1
  have hrf := rep_flds hp.wf.1 h6
  have hD : Inn K.w.length (der1 K.w y js) := der1_inn
  refine c_seq fun _ hK1 => ?_; refine c_region ?_; refine o_step rfl (s_assign rfl) ?_; refine o_nil ?_; refine x_then (hK1 _ _ ?_); refine c_seq fun _ hK2 => ?_; refine c_region ?_; refine o_step rfl (s_move rfl) ?_; refine o_step rfl (s_nil rfl) ?_; refine o_step rfl (s_field rfl rfl (by decide)) ?_; refine o_step rfl (s_ld rfl (.own meA rfl)) ?_; refine o_step rfl (s_move rfl) ?_; refine o_step rfl (s_idx rfl rfl hres (by omega)) ?_; refine o_step rfl (s_ldB rfl ((RdK.old hw.d1 hw.a1).lds at_ hx rfl) (by rfl)) ?_; refine o_alloc (l := En zN) (by rw [En_zero]; rfl) rfl fun b7 => ?_; refine o_stW rfl rfl upA lnA lnA onA ?_; refine o_nil ?_; refine x_then (hK2 _ _ ?_); refine c_seq fun _ hK3 => ?_; refine c_seq fun _ hK4 => ?_; refine c_region ?_; refine o_step rfl (s_assign rfl) ?_; refine o_nil ?_; refine x_then (hK4 _ _ ?_); refine c_block ?_; refine c_loop6 (fun (j : Nat) (ga : Option Addr) (gc : Nat) (g : List Bool) (Sg : Hp) (σ : MeS) => (j : Int) ≤ x.mn ∧ OwnS Ebo 1 4 (.slice ga g.length gc) g Sg ∧ IsS g K.w.length (img (pow (der1 K.w y js) j) S) ∧ K.Ext (at_ + 1) i1 σ0 σ) (fun (j : Nat) (ga : Option Addr) (gc : Nat) (g : List Bool) (Sg : Hp) (σ : MeS) => [(8, .int .i64 j), (2, .slice ga g.length gc)]) [(0, _), (1, _), (6, _), (7, _)] (fun (j : Nat) (ga : Option Addr) (gc : Nat) (g : List Bool) (Sg : Hp) (σ : MeS) => (b7, .cells (En x).toArray 108 (0, 0)) :: (K.bM, .cells [.slice K.ra K.re.length K.rc, .slice K.ta K.w.length K.tc, .slice K.ma K.sls.length K.mc, .slice σ.sa σ.ss.length σ.sc].toArray 132 (0, 0)) :: (Sg ++ (σ.SR ++ (σ.SS ++ σ.Pool)))) (fun (j : Nat) (ga : Option Addr) (gc : Nat) (g : List Bool) (Sg : Hp) (σ : MeS) => x.mn.toNat - j) 0 fa fc fr Sh σ0 ⟨by omega, hOf, hS.iff fun q _ => img_zero.symm, .refl hI0⟩ sbA sbA hzB ?_
  rintro j ga gc g Sg σ ⟨hj, hOg, hIg, hX⟩
  have hlg := hIg.len
  refine c_seq fun _ hK5 => ?_; refine c_seq fun _ hK6 => ?_; refine c_region ?_; refine o_step rfl (s_move rfl) ?_; refine o_step rfl (s_field rfl rfl (by decide)) ?_; refine o_step rfl (s_ld rfl (.own meA rfl)) ?_
  by_cases hjm : (j : Int) < x.mn
  ·
   refine o_step rfl (step_cast (v' := .bool true) (s_lss rfl rfl) (by rw [decide_eq_true (by omega)])) ?_; refine o_nil ?_; refine x_then (hK6 _ _ ?_); refine c_true rfl ?_; refine c_skip ?_; refine x_then (hK5 _ _ ?_); refine c_seq fun _ hK7 => ?_; refine c_block ?_; refine c_region ?_; refine o_step rfl (s_move rfl) ?_; refine o_step rfl (s_move rfl) ?_; refine o_step rfl (s_add rfl rfl (by omega)) ?_; refine o_step rfl (s_move rfl) ?_; refine o_call (hSt (at_ + 1) _ hpk ga gc g _ hIg σ hX.inv) rfl rfl rfl ((Pick.takeC pkA (Pick.takeA pkA pkA))) (fun _ st => ⟨⟨(RdK.old hw.d1 hw.a1).out _ st, St.apart_M st (by exact hiB) hw.d1 hw.a1 (by decide), (RdK.old hw.d2 hw.a2).out _ st, St.apart_M st (by exact hiB) hw.d2 hw.a2 (by decide), (RdK.old hw.d3 hw.a3).out _ st, St.apart_M st (by exact hiB) hw.d3 hw.a3 (by decide)⟩, (hOg.rdk hiA).out _ st, St.apart st (Pick.takeC pkA (Pick.takeA pkA pkA)) hOg (by exact hiB)⟩) (fun v28 S28 ⟨a28, c28, l28, So28, σ28, hv28, hS28, hO28, hI28, hX28⟩ => ?_)
   subst hv28; subst hS28
   have hl28 := hI28.len
   refine o_step rfl (s_assign rfl) ?_; refine o_nil ?_; refine x_block ?_; refine x_then (hK7 _ _ ?_); refine c_region ?_; refine o_step rfl (s_move rfl) ?_; refine o_step rfl (s_add rfl rfl (by omega)) ?_; refine o_step rfl (s_assign rfl) ?_; refine o_nil ?_; exact x_then (x_inv (j + 1, a28, c28, l28, So28, σ28) ⟨by dsimp only; omega, hO28, hI28.iff fun q _ => img_succ, hX.trans hX28 (Nat.le_refl _) (by omega)⟩ (by first | omega | (dsimp only; omega)) sbA hzB)
  ·
   obtain rfl : j = x.mn.toNat := by omega
   refine o_step rfl (step_cast (v' := .bool false) (s_lss rfl rfl) (by rw [decide_eq_false (by omega)])) ?_; refine o_nil ?_; refine x_then (hK6 _ _ ?_); refine c_false rfl ?_; refine c_exit ?_; refine x_then_exit ?_; refine x_then_exit ?_; refine x_block_exit ?_; refine x_then (hK3 _ _ ?_); refine c_seq fun _ hK8 => ?_; refine c_region ?_; refine o_step rfl (s_move rfl) ?_; refine o_step rfl (s_len rfl) ?_; refine o_make (E := Ebo) (zx := false) (n := g.length) rfl rfl rfl (by omega) (by omega) rfl fun b31 S31 hS31 => ?_; refine o_step rfl (s_assign rfl) ?_; refine o_nil ?_; refine x_then (hK8 _ _ ?_); refine c_seq fun _ hK9 => ?_; refine c_region ?_; refine o_step rfl (s_move rfl) ?_; refine o_step rfl (s_move rfl) ?_; refine o_call (orM2_fn (some ⟨b31, 0, none⟩) g.length g.length (List.replicate g.length false) List.length_replicate S31 hS31 ga gc g rfl (by omega)) rfl rfl rfl pkA (fun _ st => ⟨(hOg.rdk hiA).out _ st, St.apart st pkA hOg (by exact hiB)⟩) (fun v34 So34 ⟨hv34, hO34⟩ => ?_)
   subst hv34; refine o_nil ?_; refine x_then (hK9 _ _ ?_); refine c_seq fun _ hK10 => ?_; refine c_seq fun _ hK11 => ?_; refine c_region ?_; refine o_step rfl (s_field rfl rfl (by decide)) ?_; refine o_step rfl (s_ld rfl (.own meA rfl)) ?_; refine o_step rfl (s_assign rfl) ?_; refine o_nil ?_; refine x_then (hK11 _ _ ?_); refine c_block ?_; refine c_loop8 (fun (k : Nat) (ha : Option Addr) (hc : Nat) (h : List Bool) (Sg2 : Hp) (o : List Bool) (So : Hp) (τ : MeS) => x.mn ≤ k ∧ (x.mx = -1 → k + cf o ≤ x.mn.toNat + K.w.length + 1) ∧ (x.mx ≠ -1 → (k : Int) ≤ x.mx) ∧ OwnS Ebo 1 4 (.slice ha h.length hc) h Sg2 ∧ IsS h K.w.length (img (pow (der1 K.w y js) k) S) ∧ OwnS Ebo 1 4 (.slice (some ⟨b31, 0, none⟩) g.length g.length) o So ∧ IsS o K.w.length (upTo (der1 K.w y js) S x.mn.toNat k) ∧ K.Ext (at_ + 1) i1 σ0 τ) (fun (k : Nat) (ha : Option Addr) (hc : Nat) (h : List Bool) (Sg2 : Hp) (o : List Bool) (So : Hp) (τ : MeS) => [(10, .int .i64 k), (2, .slice ha h.length hc)]) [(0, _), (1, _), (6, _), (7, _), (9, _)] (fun (k : Nat) (ha : Option Addr) (hc : Nat) (h : List Bool) (Sg2 : Hp) (o : List Bool) (So : Hp) (τ : MeS) => (b7, .cells (En x).toArray 108 (0, 0)) :: (K.bM, .cells [.slice K.ra K.re.length K.rc, .slice K.ta K.w.length K.tc, .slice K.ma K.sls.length K.mc, .slice τ.sa τ.ss.length τ.sc].toArray 132 (0, 0)) :: (So ++ (Sg2 ++ (τ.SR ++ (τ.SS ++ τ.Pool))))) (fun (k : Nat) (ha : Option Addr) (hc : Nat) (h : List Bool) (Sg2 : Hp) (o : List Bool) (So : Hp) (τ : MeS) => (if x.mx = -1 then cf o else (x.mx - k).toNat)) x.mn.toNat ga gc g Sg (orL (List.replicate g.length false) g) So34 σ ⟨by omega, fun _ => by have h1 := cf_le (orL (List.replicate g.length false) g); rw [orL_len, List.length_replicate] at h1; omega, fun h => by omega, hOg, hIg, hO34, by have h1 := hIg.orn; rw [← hlg] at h1; exact h1.iff fun q _ => upTo_start.symm, hX⟩ (by exact Sub.cons' rfl (by congr 1; omega) sbA) sbA hzB ?_
   rintro k ha hc h Sg2 o So τ ⟨hk1, hk2, hk3, hOh, hIh, hOo, hIo, hXt⟩
   have hlo := hIo.len
   have hlog : o.length = g.length := by omega
   refine c_seq fun _ hK12 => ?_; refine c_seq fun _ hK13 => ?_; refine c_region ?_; refine o_step rfl (s_field rfl rfl (by decide)) ?_; refine o_step rfl (s_ld rfl (.own meA rfl)) ?_
   by_cases hm1 : x.mx < 0
   ·
    have hm2 : x.mx = -1 := by omega
    have hk2b := hk2 hm2
    refine o_step rfl (step_cast (v' := .bool true) (s_lss rfl rfl) (by rw [decide_eq_true (by omega)])) ?_; refine o_step rfl (s_move rfl) ?_; refine o_no rfl rfl rfl rfl ?_; refine o_no rfl rfl rfl rfl ?_; refine o_no rfl rfl rfl rfl ?_; refine o_no rfl rfl rfl rfl ?_; refine o_step rfl (s_pick_t rfl rfl) ?_; refine o_nil ?_; refine x_then (hK13 _ _ ?_); refine c_true rfl ?_; refine c_skip ?_; refine x_then (hK12 _ _ ?_); refine c_seq fun _ hK14 => ?_; refine c_block ?_; refine c_seq fun _ hK15 => ?_; refine c_region ?_; refine o_step rfl (s_move rfl) ?_; refine o_step rfl (s_move rfl) ?_; refine o_step rfl (s_add rfl rfl (by omega)) ?_; refine o_step rfl (s_move rfl) ?_; refine o_call (hSt (at_ + 1) _ hpk ha hc h _ hIh τ hXt.inv) rfl rfl rfl ((Pick.takeC pkA (Pick.takeA pkA pkA))) (fun _ st => ⟨⟨(RdK.old hw.d1 hw.a1).out _ st, St.apart_M st (by exact hiB) hw.d1 hw.a1 (by decide), (RdK.old hw.d2 hw.a2).out _ st, St.apart_M st (by exact hiB) hw.d2 hw.a2 (by decide), (RdK.old hw.d3 hw.a3).out _ st, St.apart_M st (by exact hiB) hw.d3 hw.a3 (by decide)⟩, (hOh.rdk hiA).out _ st, St.apart st (Pick.takeC pkA (Pick.takeA pkA pkA)) hOh (by exact hiB)⟩) (fun v52 S52 ⟨a52, c52, l52, So52, σ52, hv52, hS52, hO52, hI52, hX52⟩ => ?_)
    subst hv52; subst hS52
    have hl52 := hI52.len
    refine o_step rfl (s_assign rfl) ?_; refine o_nil ?_; refine x_then (hK15 _ _ ?_); refine c_seq fun _ hK16 => ?_; refine c_region ?_; refine o_step rfl (s_move rfl) ?_; refine o_step rfl (s_move rfl) ?_; refine o_call (orM2_fn (some ⟨b31, 0, none⟩) g.length g.length o hlog So hOo a52 c52 l52 (by omega) (by omega)) rfl rfl rfl pkA (fun _ st => ⟨(hO52.rdk hiA).out _ st, St.apart st pkA hO52 (by exact hiB)⟩) (fun v55 So55 ⟨hv55, hO55⟩ => ?_); subst hv55
    by_cases hmo : moreB o l52 = false
    ·
     refine o_step rfl (step_cast (v' := .bool true) (s_not rfl) (by rw [hmo]; rfl)) ?_; refine o_nil ?_; refine x_then (hK16 _ _ ?_); refine c_true rfl ?_; refine c_exit ?_; refine x_block_pass rfl ?_; refine x_then_exit ?_; refine x_then_exit ?_; refine x_block_exit ?_; refine x_then (hK10 _ _ ?_); refine c_seq fun _ hK17 => ?_; refine c_region ?_; refine o_step rfl (s_move rfl) ?_; refine o_step rfl (s_assign rfl) ?_; refine o_nil ?_; refine x_then (hK17 _ _ ?_); refine c_ret ?_; refine ?_; refine x_sub (Sub.refl _) (H' := (K.bM, .cells [.slice K.ra K.re.length K.rc, .slice K.ta K.w.length K.tc, .slice K.ma K.sls.length K.mc, .slice σ52.sa σ52.ss.length σ52.sc].toArray 132 (0, 0)) :: (So55 ++ (σ52.SR ++ (σ52.SS ++ σ52.Pool)))) hzB ?_; exact x_ret rfl (.tmp rfl (.nil)) (⟨(some ⟨b31, 0, none⟩), g.length, orL o l52, So55, σ52, by rw [orL_len, hlo, hlg]; rfl, rfl, by rw [orL_len, hlo, ← hlg]; exact hO55, (hIo.or (hI52.iff fun q _ => img_succ)).iff fun q hq => ⟨fun h => (rounds_fixed2 (by omega) (by omega) (by omega) hSb hD (hIo.no_more (hI52.iff fun q _ => img_succ) hmo) q).1 (h.elim id (hIo.no_more (hI52.iff fun q _ => img_succ) hmo q hq)), fun h => .inl ((rounds_fixed2 (by omega) (by omega) (by omega) hSb hD (hIo.no_more (hI52.iff fun q _ => img_succ) hmo) q).2 h)⟩, hXt.trans hX52 (Nat.le_refl _) (by omega)⟩)
    ·
     have hmo2 : moreB o l52 = true := by simpa using hmo
     refine o_step rfl (step_cast (v' := .bool false) (s_not rfl) (by rw [hmo2]; rfl)) ?_; refine o_nil ?_; refine x_then (hK16 _ _ ?_); refine c_false rfl ?_; refine c_skip ?_; refine x_block ?_; refine x_then (hK14 _ _ ?_); refine c_region ?_; refine o_step rfl (s_move rfl) ?_; refine o_step rfl (s_add rfl rfl (by omega)) ?_; refine o_step rfl (s_assign rfl) ?_; refine o_nil ?_; exact x_then (x_inv (k + 1, a52, c52, l52, So52, orL o l52, So55, σ52) ⟨by dsimp only; omega, fun h => by have := cf_more hmo2; have := hk2 hm2; dsimp only; omega, fun h => absurd hm2 h, hO52, hI52.iff fun q _ => img_succ, hO55, (hIo.or (hI52.iff fun q _ => img_succ)).iff fun q _ => (upTo_succ (by omega)).symm, hXt.trans hX52 (Nat.le_refl _) (by omega)⟩ (by dsimp only; rw [if_pos hm2, if_pos hm2]; exact cf_more hmo2) sbA hzB)
   ·
    have hk3b := hk3 (by omega)
    refine o_step rfl (step_cast (v' := .bool false) (s_lss rfl rfl) (by rw [decide_eq_false (by omega)])) ?_; refine o_step rfl (s_move rfl) ?_; refine o_yes rfl rfl ?_; refine o_step rfl (s_move rfl) ?_; refine o_yes rfl rfl ?_; refine o_step rfl (s_field rfl rfl (by decide)) ?_; refine o_yes rfl rfl ?_; refine o_step rfl (s_ld rfl (.own meA rfl)) ?_; refine o_yes rfl rfl ?_
    by_cases hkm : (k : Int) < x.mx
    ·
     refine o_step rfl (step_cast (v' := .bool true) (s_lss rfl rfl) (by rw [decide_eq_true (by omega)])) ?_; refine o_step rfl (s_pick_f rfl rfl) ?_; refine o_nil ?_; refine x_then (hK13 _ _ ?_); refine c_true rfl ?_; refine c_skip ?_; refine x_then (hK12 _ _ ?_); refine c_seq fun _ hK18 => ?_; refine c_block ?_; refine c_seq fun _ hK19 => ?_; refine c_region ?_; refine o_step rfl (s_move rfl) ?_; refine o_step rfl (s_move rfl) ?_; refine o_step rfl (s_add rfl rfl (by omega)) ?_; refine o_step rfl (s_move rfl) ?_; refine o_call (hSt (at_ + 1) _ hpk ha hc h _ hIh τ hXt.inv) rfl rfl rfl ((Pick.takeC pkA (Pick.takeA pkA pkA))) (fun _ st => ⟨⟨(RdK.old hw.d1 hw.a1).out _ st, St.apart_M st (by exact hiB) hw.d1 hw.a1 (by decide), (RdK.old hw.d2 hw.a2).out _ st, St.apart_M st (by exact hiB) hw.d2 hw.a2 (by decide), (RdK.old hw.d3 hw.a3).out _ st, St.apart_M st (by exact hiB) hw.d3 hw.a3 (by decide)⟩, (hOh.rdk hiA).out _ st, St.apart st (Pick.takeC pkA (Pick.takeA pkA pkA)) hOh (by exact hiB)⟩) (fun v52 S52 ⟨a52, c52, l52, So52, σ52, hv52, hS52, hO52, hI52, hX52⟩ => ?_)
     subst hv52; subst hS52
     have hl52 := hI52.len
     refine o_step rfl (s_assign rfl) ?_; refine o_nil ?_; refine x_then (hK19 _ _ ?_); refine c_seq fun _ hK20 => ?_; refine c_region ?_; refine o_step rfl (s_move rfl) ?_; refine o_step rfl (s_move rfl) ?_; refine o_call (orM2_fn (some ⟨b31, 0, none⟩) g.length g.length o hlog So hOo a52 c52 l52 (by omega) (by omega)) rfl rfl rfl pkA (fun _ st => ⟨(hO52.rdk hiA).out _ st, St.apart st pkA hO52 (by exact hiB)⟩) (fun v55 So55 ⟨hv55, hO55⟩ => ?_); subst hv55
     by_cases hmo : moreB o l52 = false
     ·
      refine o_step rfl (step_cast (v' := .bool true) (s_not rfl) (by rw [hmo]; rfl)) ?_; refine o_nil ?_; refine x_then (hK20 _ _ ?_); refine c_true rfl ?_; refine c_exit ?_; refine x_block_pass rfl ?_; refine x_then_exit ?_; refine x_then_exit ?_; refine x_block_exit ?_; refine x_then (hK10 _ _ ?_); refine c_seq fun _ hK21 => ?_; refine c_region ?_; refine o_step rfl (s_move rfl) ?_; refine o_step rfl (s_assign rfl) ?_; refine o_nil ?_; refine x_then (hK21 _ _ ?_); refine c_ret ?_; refine ?_; refine x_sub (Sub.refl _) (H' := (K.bM, .cells [.slice K.ra K.re.length K.rc, .slice K.ta K.w.length K.tc, .slice K.ma K.sls.length K.mc, .slice σ52.sa σ52.ss.length σ52.sc].toArray 132 (0, 0)) :: (So55 ++ (σ52.SR ++ (σ52.SS ++ σ52.Pool)))) hzB ?_; exact x_ret rfl (.tmp rfl (.nil)) (⟨(some ⟨b31, 0, none⟩), g.length, orL o l52, So55, σ52, by rw [orL_len, hlo, hlg]; rfl, rfl, by rw [orL_len, hlo, ← hlg]; exact hO55, (hIo.or (hI52.iff fun q _ => img_succ)).iff fun q hq => ⟨fun h => (rounds_fixed2 (by omega) (by omega) (by omega) hSb hD (hIo.no_more (hI52.iff fun q _ => img_succ) hmo) q).1 (h.elim id (hIo.no_more (hI52.iff fun q _ => img_succ) hmo q hq)), fun h => .inl ((rounds_fixed2 (by omega) (by omega) (by omega) hSb hD (hIo.no_more (hI52.iff fun q _ => img_succ) hmo) q).2 h)⟩, hXt.trans hX52 (Nat.le_refl _) (by omega)⟩)
     ·
      have hmo2 : moreB o l52 = true := by simpa using hmo
      refine o_step rfl (step_cast (v' := .bool false) (s_not rfl) (by rw [hmo2]; rfl)) ?_; refine o_nil ?_; refine x_then (hK20 _ _ ?_); refine c_false rfl ?_; refine c_skip ?_; refine x_block ?_; refine x_then (hK18 _ _ ?_); refine c_region ?_; refine o_step rfl (s_move rfl) ?_; refine o_step rfl (s_add rfl rfl (by omega)) ?_; refine o_step rfl (s_assign rfl) ?_; refine o_nil ?_; exact x_then (x_inv (k + 1, a52, c52, l52, So52, orL o l52, So55, σ52) ⟨by dsimp only; omega, fun h => by omega, fun h => by omega, hO52, hI52.iff fun q _ => img_succ, hO55, (hIo.or (hI52.iff fun q _ => img_succ)).iff fun q _ => (upTo_succ (by omega)).symm, hXt.trans hX52 (Nat.le_refl _) (by omega)⟩ (by dsimp only; rw [if_neg (by omega), if_neg (by omega)]; omega) sbA hzB)
    ·
     refine o_step rfl (step_cast (v' := .bool false) (s_lss rfl rfl) (by rw [decide_eq_false (by omega)])) ?_; refine o_step rfl (s_pick_f rfl rfl) ?_; refine o_nil ?_; refine x_then (hK13 _ _ ?_); refine c_false rfl ?_; refine c_exit ?_; refine x_then_exit ?_; refine x_then_exit ?_; refine x_block_exit ?_; refine x_then (hK10 _ _ ?_); refine c_seq fun _ hK22 => ?_; refine c_region ?_; refine o_step rfl (s_move rfl) ?_; refine o_step rfl (s_assign rfl) ?_; refine o_nil ?_; refine x_then (hK22 _ _ ?_); refine c_ret ?_; refine ?_; refine x_sub (Sub.refl _) (H' := (K.bM, .cells [.slice K.ra K.re.length K.rc, .slice K.ta K.w.length K.tc, .slice K.ma K.sls.length K.mc, .slice τ.sa τ.ss.length τ.sc].toArray 132 (0, 0)) :: (So ++ (τ.SR ++ (τ.SS ++ τ.Pool)))) hzB ?_; exact x_ret rfl (.tmp rfl (.nil)) (⟨(some ⟨b31, 0, none⟩), g.length, o, So, τ, by rw [hlo, hlg]; rfl, rfl, by rw [hlo, ← hlg]; exact hOo, hIo.iff fun q _ => rounds_last (by omega) (by omega) q, hXt⟩)
end Go.Proofs.YtopmnmigpbdddaaGreatDoor
