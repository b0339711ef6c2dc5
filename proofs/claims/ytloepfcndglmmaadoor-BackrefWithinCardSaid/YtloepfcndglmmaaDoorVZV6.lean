/- Part of the proofs over this seat: see the text that holds the theorem. Conditions: each theorem bears its own. -/
import Derived.Test.YtloepfcndglmmaaDoorVZV5Z
namespace Go.Proofs.YtloepfcndglmmaaDoor
open Go Go.HL Go.Proofs Go.HL.Kl Go.HL.Kl.Mc Go.HL.Kl.Mc.AskE
open TalE
set_option maxHeartbeats 4000000 in
theorem node_stepV (K : TalE) (hK : K.ok) (L : Nat) (hN : K.NodeV L) (hR : ∀ f, K.RowV L f) (hRo : K.RoundsV L) (x : Nd) (ks : F) (at_ i1 : Nat) (hp : Part K.re (.nd x ks .nil) at_ i1) (i j : Nat) (hij : i ≤ j) (hjn : j ≤ K.n) (c : Sl Sp) (Pool : Hp) (hc : RowP K.N Pool c) (left : Int) (h0 : 0 ≤ left) (hL : left < L + 1) (h5 : left ≤ 500000) : HL.Fn Tryd.prog 90 [pt K.bT, .int .i64 at_, .int .i64 i, .int .i64 j, .slice c.a c.xs.length c.c] (fun W => K.Env W ((K.bT, .cells [.slice K.ra K.re.length K.rc, .int .i64 (K.n : Nat), .slice K.ha K.hl.length K.hc, .int .i64 left].toArray 144 (0, 0)) :: Pool)) ((K.bT, .cells [.slice K.ra K.re.length K.rc, .int .i64 (K.n : Nat), .slice K.ha K.hl.length K.hc, .int .i64 left].toArray 144 (0, 0)) :: Pool) (K.PostV left 0 Pool (NodeC' K.n x ks i j c.xs)) := by
  refine fn_of Tryd.func90 rfl rfl rfl fun w0 hw => ?_
  have hnl := hK.nl
  have hNl := hK.Nl
  have hrl := hK.rl
  have hhs := hw.d2.sl
  have hres := hw.d1.sl
  have hple := hp.le
  have hpl := hp.len
  obtain ⟨hx, hpk, _⟩ := hp.head
  have hxm := List.mem_of_getElem? hx
  have hxr := hK.rng x hxm
  have hby := hK.beh _ _ _ _ _ hp
  have hbl := (List.getElem?_eq_some_iff.1 hby).1
  have hbz : at_ + 1 + ks.size ≤ K.re.length := hpk.le
  have hat := (List.getElem?_eq_some_iff.1 hx).1
  have hcx := hc.1
  have hnks := F.num_le ks
  have hkn0 : (ks.num : Int) = x.kids := hp.wf.2.1
  have hok : ndOk x = true := hp.wf.1
  have hop : 1 ≤ x.op ∧ x.op ≤ 8 := (flds_iff.1 (by simp only [ndOk, Bool.and_eq_true] at hok; exact hok.1)).1
  refine c_seq fun _ hK1 => ?_
  refine c_region ?_
  refine o_step rfl (s_assign rfl) ?_
  refine o_nil ?_
  refine x_then (hK1 _ _ ?_)
  refine c_seq fun _ hK2 => ?_
  refine c_region ?_
  refine o_step rfl (s_move rfl) ?_
  refine o_step rfl (s_nil rfl) ?_
  refine o_step rfl (s_field rfl rfl (by decide)) ?_
  refine o_step rfl (s_ld rfl (.own meA rfl)) ?_
  refine o_step rfl (s_sub rfl rfl (by omega)) ?_
  refine o_step rfl (s_nil rfl) ?_
  refine o_step rfl (s_field rfl rfl (by decide)) ?_
  refine o_store rfl rfl rfl upA ltA rfl ?_
  refine o_nil ?_
  refine x_then (hK2 _ _ ?_)
  refine c_seq fun _ hK3 => ?_
  refine c_seq fun _ hK4 => ?_
  refine c_region ?_
  refine o_step rfl (s_move rfl) ?_
  refine o_step rfl (s_nil rfl) ?_
  refine o_step rfl (s_field rfl rfl (by decide)) ?_
  refine o_step rfl (s_ld rfl (.own meA rfl)) ?_
  by_cases hl0 : left - 1 < 0
  ·
   refine o_step rfl (step_cast (v' := .bool true) (s_lss rfl rfl) (by rw [decide_eq_true (by omega)])) ?_
   refine o_nil ?_
   refine x_then (hK4 _ _ ?_)
   refine c_true rfl ?_
   refine c_seq fun _ hK5 => ?_
   refine c_region ?_
   refine o_step rfl (s_assign rfl) ?_
   refine o_nil ?_
   refine x_then (hK5 _ _ ?_)
   refine c_ret ?_
   refine x_then_ret (?_)
   refine x_sub (Sub.refl _) (H' := (K.bT, .cells [.slice K.ra K.re.length K.rc, .int .i64 (K.n : Nat), .slice K.ha K.hl.length K.hc, .int .i64 (left - 1)].toArray 144 (0, 0)) :: ([] ++ ([] ++ Pool))) (by simpa using hzB) ?_
   exact x_ret rfl (.tmp rfl (.nil)) (⟨none, 0, [], [], [], left - 1, rfl, rfl, .nil, fun s hs => (by cases hs), by simp; omega, by omega, by omega, fun h0 => absurd h0 (by omega)⟩)
  ·
   refine o_step rfl (step_cast (v' := .bool false) (s_lss rfl rfl) (by rw [decide_eq_false (by omega)])) ?_
   refine o_nil ?_
   refine x_then (hK4 _ _ ?_)
   refine c_false rfl ?_
   refine c_skip ?_
   refine x_then (hK3 _ _ ?_)
   refine c_seq fun _ hK6 => ?_
   refine c_region ?_
   refine o_step rfl (s_move rfl) ?_
   refine o_step rfl (s_nil rfl) ?_
   refine o_step rfl (s_field rfl rfl (by decide)) ?_
   refine o_step rfl (s_ld rfl (.own meA rfl)) ?_
   refine o_step rfl (s_move rfl) ?_
   refine o_step rfl (s_idx rfl rfl hres (by omega)) ?_
   refine o_step rfl (s_ldB rfl ((RdK.old hw.d1 hw.a1).lds at_ hx rfl) (by rfl)) ?_
   refine o_alloc (l := En zN) (by rw [En_zero]; rfl) rfl fun b11 => ?_
   refine o_stW rfl rfl upA lnA lnA onA ?_
   refine o_nil ?_
   refine x_then (hK6 _ _ ?_)
   refine c_seq fun _ hK7 => ?_
   refine c_region ?_
   refine o_step rfl (s_assign rfl) ?_
   refine o_nil ?_
   refine x_then (hK7 _ _ ?_)
   refine c_seqJ (ι := Bool) (fun gd => (x.op = 1 ∨ x.op = 2 ∨ x.op = 3 ∨ x.op = 8) ∧ (goodT K.n x c.xs i j → gd = true)) (fun gd => [(12, .bool gd)]) [(4, _)] (fun gd => (K.bT, .cells [.slice K.ra K.re.length K.rc, .int .i64 (K.n : Nat), .slice K.ha K.hl.length K.hc, .int .i64 (left - 1)].toArray 144 (0, 0)) :: Pool) sbA ?_ ?_
   ·
    rintro gd ⟨hop4, hgT⟩
    refine c_seq fun _ hK9 => ?_
    refine c_seq fun _ hK10 => ?_
    refine c_region ?_
    by_cases hgd : gd = true
    ·
     refine o_step rfl (step_cast (v' := .bool true) (s_move rfl) (by rw [hgd])) ?_
     refine o_step rfl (s_not rfl) ?_
     refine o_nil ?_
     refine x_then (hK10 _ _ ?_)
     refine c_false rfl ?_
     refine c_skip ?_
     refine x_then (hK9 _ _ ?_)
     refine c_seq fun _ hK11 => ?_
     refine c_region ?_
     refine o_step rfl (s_move rfl) ?_
     refine o_bs (E := Esl) (xs := [c]) (vs := [_]) rfl rfl rfl rfl rfl (by decide) (by decide) fun b204 S204 hS204 => ?_
     refine o_step rfl (s_assign rfl) ?_
     refine o_nil ?_
     refine x_then (hK11 _ _ ?_)
     refine c_ret ?_
     refine ?_
     refine x_sub (Sub.refl _) (H' := (K.bT, .cells [.slice K.ra K.re.length K.rc, .int .i64 (K.n : Nat), .slice K.ha K.hl.length K.hc, .int .i64 (left - 1)].toArray 144 (0, 0)) :: (S204 ++ ([] ++ Pool))) (by simpa using hzB) ?_
     exact x_ret rfl (.tmp rfl (.nil)) (⟨_, _, [c], S204, [], left - 1, rfl, rfl, hS204, fun s hs => (by rw [List.mem_singleton.1 hs]; exact hc), by simp; omega, by omega, by omega, fun _ => ⟨1, .leaf hop4 (fun _ => List.mem_singleton_self _) (Nat.le_refl _), by omega⟩⟩)
    ·
     refine o_step rfl (step_cast (v' := .bool false) (s_move rfl) (by rw [Bool.eq_false_iff.2 hgd])) ?_
     refine o_step rfl (s_not rfl) ?_
     refine o_nil ?_
     refine x_then (hK10 _ _ ?_)
     refine c_true rfl ?_
     refine c_seq fun _ hK12 => ?_
     refine c_region ?_
     refine o_step rfl (s_assign rfl) ?_
     refine o_nil ?_
     refine x_then (hK12 _ _ ?_)
     refine c_ret ?_
     refine x_then_ret (?_)
     refine x_sub (Sub.refl _) (H' := (K.bT, .cells [.slice K.ra K.re.length K.rc, .int .i64 (K.n : Nat), .slice K.ha K.hl.length K.hc, .int .i64 (left - 1)].toArray 144 (0, 0)) :: ([] ++ ([] ++ Pool))) (by simpa using hzB) ?_
     exact x_ret rfl (.tmp rfl (.nil)) (⟨none, 0, [], [], [], left - 1, rfl, rfl, .nil, fun s hs => (by cases hs), by simp; omega, by omega, by omega, fun _ => ⟨1, .leaf hop4 (fun h => absurd (hgT h) hgd) (Nat.le_refl _), by omega⟩⟩)
   ·
    intro _ hJ8
    refine c_seq fun _ hK13 => ?_
    refine c_region ?_
    refine o_step rfl (s_field rfl rfl (by decide)) ?_
    refine o_step rfl (s_ld rfl (.own meA rfl)) ?_
    refine o_step rfl (s_convI rfl (by omega)) ?_
    refine o_nil ?_
    refine x_then (hK13 _ _ ?_)
    refine c_block ?_
    refine c_seq fun _ hK14 => ?_
    refine c_region ?_
    by_cases o1 : x.op = 1
    ·
     refine o_step rfl (step_cast (v' := .bool true) (s_eql rfl rfl) (by rw [decide_eq_true o1])) ?_
     refine o_step rfl (s_assign rfl) ?_
     refine o_nil ?_
     refine x_then (hK14 _ _ ?_)
     refine c_true rfl ?_
     refine c_region ?_
     refine o_step rfl (s_move rfl) ?_
     refine o_step rfl (s_move rfl) ?_
     refine o_step rfl (s_add rfl rfl (by omega)) ?_
     refine o_step rfl (s_eql rfl rfl) ?_
     refine o_step rfl (s_assign rfl) ?_
     refine o_nil ?_
     refine x_block ?_
     exact x_then (hJ8 (decide ((j : Int) = (i : Int) + 1)) _ _ ⟨.inl o1, fun h => decide_eq_true (by have := gT1 h o1; omega)⟩ sbA sbA hzB)
    ·
     refine o_step rfl (step_cast (v' := .bool false) (s_eql rfl rfl) (by rw [decide_eq_false o1])) ?_
     refine o_step rfl (s_assign rfl) ?_
     refine o_nil ?_
     refine x_then (hK14 _ _ ?_)
     refine c_false rfl ?_
     refine c_seq fun _ hK15 => ?_
     refine c_region ?_
     by_cases o2 : x.op = 2
     ·
      refine o_step rfl (step_cast (v' := .bool true) (s_eql rfl rfl) (by rw [decide_eq_true o2])) ?_
      refine o_step rfl (s_assign rfl) ?_
      refine o_nil ?_
      refine x_then (hK15 _ _ ?_)
      refine c_true rfl ?_
      refine c_region ?_
      refine o_step rfl (s_move rfl) ?_
      by_cases hi0 : (i : Int) = 0
      ·
       refine o_step rfl (step_cast (v' := .bool true) (s_eql rfl rfl) (by rw [decide_eq_true (by omega)])) ?_
       refine o_step rfl (s_move rfl) ?_
       refine o_yes rfl rfl ?_
       refine o_step rfl (s_move rfl) ?_
       refine o_yes rfl rfl ?_
       refine o_step rfl (s_eql rfl rfl) ?_
       refine o_step rfl (s_pick_t rfl rfl) ?_
       refine o_step rfl (s_assign rfl) ?_
       refine o_nil ?_
       refine x_block ?_
       exact x_then (hJ8 (decide ((j : Int) = 0)) _ _ ⟨.inr (.inl o2), fun h => decide_eq_true (by have := gT2 h o2; omega)⟩ sbA sbA hzB)
      ·
       refine o_step rfl (step_cast (v' := .bool false) (s_eql rfl rfl) (by rw [decide_eq_false (by omega)])) ?_
       refine o_step rfl (s_move rfl) ?_
       refine o_no rfl rfl rfl rfl ?_
       refine o_no rfl rfl rfl rfl ?_
       refine o_step rfl (s_pick_f rfl rfl) ?_
       refine o_step rfl (s_assign rfl) ?_
       refine o_nil ?_
       refine x_block ?_
       exact x_then (hJ8 false _ _ ⟨.inr (.inl o2), fun h => (by have := gT2 h o2; exfalso; omega)⟩ sbA sbA hzB)
     ·
      refine o_step rfl (step_cast (v' := .bool false) (s_eql rfl rfl) (by rw [decide_eq_false o2])) ?_
      refine o_step rfl (s_assign rfl) ?_
      refine o_nil ?_
      refine x_then (hK15 _ _ ?_)
      refine c_false rfl ?_
      refine c_seq fun _ hK16 => ?_
      refine c_region ?_
      by_cases o3 : x.op = 3
      ·
       refine o_step rfl (step_cast (v' := .bool true) (s_eql rfl rfl) (by rw [decide_eq_true o3])) ?_
       refine o_step rfl (s_assign rfl) ?_
       refine o_nil ?_
       refine x_then (hK16 _ _ ?_)
       refine c_true rfl ?_
       refine c_region ?_
       refine o_step rfl (s_move rfl) ?_
       refine o_step rfl (s_move rfl) ?_
       refine o_step rfl (s_nil rfl) ?_
       refine o_step rfl (s_field rfl rfl (by decide)) ?_
       refine o_step rfl (s_ld rfl (.own meA rfl)) ?_
       by_cases hin : (i : Int) = (K.n : Nat)
       ·
        refine o_step rfl (step_cast (v' := .bool true) (s_eql rfl rfl) (by rw [decide_eq_true (by omega)])) ?_
        refine o_step rfl (s_move rfl) ?_
        refine o_yes rfl rfl ?_
        refine o_step rfl (s_move rfl) ?_
        refine o_yes rfl rfl ?_
        refine o_step rfl (s_move rfl) ?_
        refine o_yes rfl rfl ?_
        refine o_step rfl (s_nil rfl) ?_
        refine o_yes rfl rfl ?_
        refine o_step rfl (s_field rfl rfl (by decide)) ?_
        refine o_yes rfl rfl ?_
        refine o_step rfl (s_ld rfl (.own meA rfl)) ?_
        refine o_yes rfl rfl ?_
        refine o_step rfl (s_eql rfl rfl) ?_
        refine o_step rfl (s_pick_t rfl rfl) ?_
        refine o_step rfl (s_assign rfl) ?_
        refine o_nil ?_
        refine x_block ?_
        exact x_then (hJ8 (decide ((j : Int) = (K.n : Nat))) _ _ ⟨.inr (.inr (.inl o3)), fun h => decide_eq_true (by have := gT3 h o3; omega)⟩ sbA sbA hzB)
       ·
        refine o_step rfl (step_cast (v' := .bool false) (s_eql rfl rfl) (by rw [decide_eq_false (by omega)])) ?_
        refine o_step rfl (s_move rfl) ?_
        refine o_no rfl rfl rfl rfl ?_
        refine o_no rfl rfl rfl rfl ?_
        refine o_no rfl rfl rfl rfl ?_
        refine o_no rfl rfl rfl rfl ?_
        refine o_no rfl rfl rfl rfl ?_
        refine o_no rfl rfl rfl rfl ?_
        refine o_step rfl (s_pick_f rfl rfl) ?_
        refine o_step rfl (s_assign rfl) ?_
        refine o_nil ?_
        refine x_block ?_
        exact x_then (hJ8 false _ _ ⟨.inr (.inr (.inl o3)), fun h => (by have := gT3 h o3; exfalso; omega)⟩ sbA sbA hzB)
      ·
       refine o_step rfl (step_cast (v' := .bool false) (s_eql rfl rfl) (by rw [decide_eq_false o3])) ?_
       refine o_step rfl (s_assign rfl) ?_
       refine o_nil ?_
       refine x_then (hK16 _ _ ?_)
       refine c_false rfl ?_
       refine c_seq fun _ hK17 => ?_
       refine c_region ?_
       by_cases o8 : x.op = 8
       ·
        have hrf := hK.ref x hxm o8
        obtain ⟨s, hsp⟩ : ∃ s, c.xs[(x.n - 1).toNat]? = some s := ⟨_, List.getElem?_eq_getElem (by omega)⟩
        have hcs := hc.2.1
        refine o_step rfl (step_cast (v' := .bool true) (s_eql rfl rfl) (by rw [decide_eq_true o8])) ?_
        refine o_step rfl (s_assign rfl) ?_
        refine o_nil ?_
        refine x_then (hK17 _ _ ?_)
        refine c_true rfl ?_
        refine c_seq fun _ hK18 => ?_
        refine c_region ?_
        refine o_step rfl (s_move rfl) ?_
        refine o_step rfl (s_field rfl rfl (by decide)) ?_
        refine o_step rfl (s_ld rfl (.own meA rfl)) ?_
        refine o_step rfl (s_sub rfl rfl (by omega)) ?_
        refine o_step rfl (s_idx rfl rfl hcs (by omega)) ?_
        refine o_step rfl (s_ldB rfl ((hc.2.2.rdk hiA).lds (x.n - 1).toNat hsp rfl) (by rfl)) ?_
        refine o_alloc (l := Esp ⟨0, 0⟩) rfl rfl fun b13 => ?_
        refine o_stW rfl rfl upA lnA lnA onA ?_
        refine o_nil ?_
        refine x_then (hK18 _ _ ?_)
        refine c_region ?_
        refine o_step rfl (s_field rfl rfl (by decide)) ?_
        refine o_step rfl (s_ld rfl (.own meA rfl)) ?_
        by_cases hsf : s.fr ≥ 0
        ·
         refine o_step rfl (step_cast (v' := .bool true) (s_geq rfl rfl) (by rw [decide_eq_true (by omega)])) ?_
         refine o_step rfl (s_move rfl) ?_
         refine o_yes rfl rfl ?_
         refine o_step rfl (s_field rfl rfl (by decide)) ?_
         refine o_yes rfl rfl ?_
         refine o_step rfl (s_ld rfl (.own meA rfl)) ?_
         refine o_yes rfl rfl ?_
         refine o_step rfl (s_field rfl rfl (by decide)) ?_
         refine o_yes rfl rfl ?_
         refine o_step rfl (s_ld rfl (.own meA rfl)) ?_
         refine o_yes rfl rfl ?_
         refine o_step rfl (s_subw rfl rfl) ?_
         refine o_yes rfl rfl ?_
         refine o_step rfl (s_move rfl) ?_
         refine o_yes rfl rfl ?_
         refine o_step rfl (s_move rfl) ?_
         refine o_yes rfl rfl ?_
         refine o_step rfl (s_sub rfl rfl (by omega)) ?_
         refine o_yes rfl rfl ?_
         refine o_step rfl (s_eql rfl rfl) ?_
         refine o_step rfl (s_pick_t rfl rfl) ?_
         refine o_step rfl (s_assign rfl) ?_
         refine o_nil ?_
         refine x_block ?_
         exact x_then (hJ8 (decide (IntKind.wrap .i64 (s.to - s.fr) = (j : Int) - (i : Int))) _ _ ⟨.inr (.inr (.inr o8)), fun h => decide_eq_true (by obtain ⟨g1, g2⟩ := gT8 h o8 hrf.1 hsp; rw [g2]; exact wrap_i64z (by omega) (by omega))⟩ sbA sbA hzB)
        ·
         refine o_step rfl (step_cast (v' := .bool false) (s_geq rfl rfl) (by rw [decide_eq_false (by omega)])) ?_
         refine o_step rfl (s_move rfl) ?_
         refine o_no rfl rfl rfl rfl ?_
         refine o_no rfl rfl rfl rfl ?_
         refine o_no rfl rfl rfl rfl ?_
         refine o_no rfl rfl rfl rfl ?_
         refine o_no rfl rfl rfl rfl ?_
         refine o_no rfl rfl rfl rfl ?_
         refine o_no rfl rfl rfl rfl ?_
         refine o_no rfl rfl rfl rfl ?_
         refine o_no rfl rfl rfl rfl ?_
         refine o_step rfl (s_pick_f rfl rfl) ?_
         refine o_step rfl (s_assign rfl) ?_
         refine o_nil ?_
         refine x_block ?_
         exact x_then (hJ8 false _ _ ⟨.inr (.inr (.inr o8)), fun h => (by have := (gT8 h o8 hrf.1 hsp).1; exfalso; omega)⟩ sbA sbA hzB)
       ·
        refine o_step rfl (step_cast (v' := .bool false) (s_eql rfl rfl) (by rw [decide_eq_false o8])) ?_
        refine o_step rfl (s_assign rfl) ?_
        refine o_nil ?_
        refine x_then (hK17 _ _ ?_)
        refine c_false rfl ?_
        refine c_seq fun _ hK19 => ?_
        refine c_region ?_
        by_cases o4 : x.op = 4
        ·
         refine o_step rfl (step_cast (v' := .bool true) (s_eql rfl rfl) (by rw [decide_eq_true o4])) ?_
         refine o_step rfl (s_assign rfl) ?_
         refine o_nil ?_
         refine x_then (hK19 _ _ ?_)
         refine c_true rfl ?_
         refine c_seq fun _ hK20 => ?_
         refine c_region ?_
         refine o_step rfl (s_move rfl) ?_
         refine o_step rfl (s_move rfl) ?_
         refine o_step rfl (s_add rfl rfl (by omega)) ?_
         refine o_step rfl (s_field rfl rfl (by decide)) ?_
         refine o_step rfl (step_cast (v' := .int .i64 (ks.num : Nat)) (s_ld rfl (.own meA rfl)) (by rw [hkn0])) ?_
         refine o_step rfl (s_move rfl) ?_
         refine o_step rfl (s_move rfl) ?_
         refine o_step rfl (s_move rfl) ?_
         refine o_call (hR ks (at_ + 1) _ hpk i j hij hjn c Pool hc (left - 1) (by omega) (by omega) (by omega)) rfl rfl rfl ((Pick.takeC pkA pkA)) (fun _ st => ⟨(RdK.old hw.d1 hw.a1).out _ st, St.apart_M st (by exact hiB) hw.d1 hw.a1 (by decide), (RdK.old hw.d2 hw.a2).out _ st, St.apart_M st (by exact hiB) hw.d2 hw.a2 (by decide)⟩) (fun v105 S105 ⟨a105, c105, zs105, Sz105, New105, lf105, hv105, hS105, hO105, hP105, hk105, hl105, hb105, hC105⟩ => ?_)
         subst hv105
         subst hS105
         refine o_step rfl (s_assign rfl) ?_
         refine o_nil ?_
         refine x_then (hK20 _ _ ?_)
         refine c_ret ?_
         refine x_block_ret (x_then_ret (?_))
         refine x_sub (Sub.refl _) (H' := (K.bT, .cells [.slice K.ra K.re.length K.rc, .int .i64 (K.n : Nat), .slice K.ha K.hl.length K.hc, .int .i64 lf105].toArray 144 (0, 0)) :: (Sz105 ++ (New105 ++ Pool))) hzB ?_
         exact x_ret rfl (.tmp rfl (.nil)) (⟨a105, c105, zs105, Sz105, New105, lf105, rfl, rfl, hO105, hP105, by omega, by omega, hb105, fun h0 => (by obtain ⟨k0, w1, w2⟩ := hC105 h0; refine ⟨k0 + 2, .cat o4 w1 (Nat.le_refl _), ?_⟩; rcases w2 with ⟨_, w3, _⟩ | w3 <;> omega)⟩)
        ·
         refine o_step rfl (step_cast (v' := .bool false) (s_eql rfl rfl) (by rw [decide_eq_false o4])) ?_
         refine o_step rfl (s_assign rfl) ?_
         refine o_nil ?_
         refine x_then (hK19 _ _ ?_)
         refine c_false rfl ?_
         refine c_seq fun _ hK21 => ?_
         refine c_region ?_
         by_cases o5 : x.op = 5
         ·
          refine o_step rfl (step_cast (v' := .bool true) (s_eql rfl rfl) (by rw [decide_eq_true o5])) ?_
          refine o_step rfl (s_assign rfl) ?_
          refine o_nil ?_
          refine x_then (hK21 _ _ ?_)
          refine c_true rfl ?_
          refine c_seq fun _ hK22 => ?_
          refine c_region ?_
          refine o_step rfl (s_assign rfl) ?_
          refine o_nil ?_
          refine x_then (hK22 _ _ ?_)
          refine c_seq fun _ hK23 => ?_
          refine c_region ?_
          refine o_step rfl (s_move rfl) ?_
          refine o_step rfl (s_add rfl rfl (by omega)) ?_
          refine o_step rfl (s_assign rfl) ?_
          refine o_nil ?_
          refine x_then (hK23 _ _ ?_)
          refine c_seq fun _ hK24 => ?_
          refine c_seq fun _ hK25 => ?_
          refine c_region ?_
          refine o_step rfl (s_assign rfl) ?_
          refine o_nil ?_
          refine x_then (hK25 _ _ ?_)
          refine c_block ?_
          refine c_loop9 (fun (k : Nat) (kp : Nat) (g : F) (ao : Option Addr) (co : Nat) (os : List (Sl Sp)) (So : Hp) (New : Hp) (lf : Int) => Part K.re g kp (at_ + 1 + ks.size) ∧ k + g.num = ks.num ∧ OwnS Esl 1 32 (.slice ao os.length co) os So ∧ PoolR os K.N (New ++ Pool) ∧ (os.length : Int) + lf ≤ left - 1 ∧ lf ≤ left - 1 ∧ -700000 ≤ lf ∧ (0 ≤ lf → ∃ kk, AltPre K.n ks g i j c.xs (os.map Sl.xs) kk ∧ (kk : Int) ≤ 3 * (left - 1 - lf))) (fun (k : Nat) (kp : Nat) (g : F) (ao : Option Addr) (co : Nat) (os : List (Sl Sp)) (So : Hp) (New : Hp) (lf : Int) => [(16, .int .i64 k), (15, .int .i64 kp), (14, .slice ao os.length co)]) [(0, _), (2, _), (3, _), (4, _), (10, _), (11, _), (12, _)] (fun (k : Nat) (kp : Nat) (g : F) (ao : Option Addr) (co : Nat) (os : List (Sl Sp)) (So : Hp) (New : Hp) (lf : Int) => (b11, .cells (En x).toArray 80 (0, 0)) :: (K.bT, .cells [.slice K.ra K.re.length K.rc, .int .i64 (K.n : Nat), .slice K.ha K.hl.length K.hc, .int .i64 lf].toArray 144 (0, 0)) :: (So ++ (New ++ Pool))) (fun (k : Nat) (kp : Nat) (g : F) (ao : Option Addr) (co : Nat) (os : List (Sl Sp)) (So : Hp) (New : Hp) (lf : Int) => g.size) 0 (at_ + 1) ks none 0 [] [] [] (left - 1) ⟨hpk, by simp, .nil, fun s hs => (by cases hs), by simp, Int.le_refl _, by omega, fun _ => ⟨0, AltPre.start, by omega⟩⟩ sbA sbA hzB ?_
          rintro k kp g ao co os So New lf ⟨hpg, hkn, hO, hPo, hko, hlf, hlo, hAc⟩
          refine c_seq fun _ hK26 => ?_
          refine c_seq fun _ hK27 => ?_
          refine c_region ?_
          refine o_step rfl (s_move rfl) ?_
          refine o_step rfl (s_field rfl rfl (by decide)) ?_
          refine o_step rfl (s_ld rfl (.own meA rfl)) ?_
          by_cases hkk : (k : Int) < x.kids
          ·
           obtain ⟨y, js, r, rfl⟩ : ∃ y js r, g = F.nd y js r := by cases g with | nil => simp [F.num] at hkn; omega | nd y a b => exact ⟨y, a, b, rfl⟩
           obtain ⟨hy, hpy, hpr⟩ := hpg.head
           have hby2 := hK.beh _ _ _ _ _ hpg
           have hp1 := hpg.one
           have hbl2 := (List.getElem?_eq_some_iff.1 hby2).1
           have hgl := hpg.le
           have hgn := hpg.len
           refine o_step rfl (step_cast (v' := .bool true) (s_lss rfl rfl) (by rw [decide_eq_true (by omega)])) ?_
           refine o_step rfl (s_move rfl) ?_
           refine o_yes rfl rfl ?_
           refine o_step rfl (s_move rfl) ?_
           refine o_yes rfl rfl ?_
           refine o_step rfl (s_nil rfl) ?_
           refine o_yes rfl rfl ?_
           refine o_step rfl (s_field rfl rfl (by decide)) ?_
           refine o_yes rfl rfl ?_
           refine o_step rfl (s_ld rfl (.own meA rfl)) ?_
           refine o_yes rfl rfl ?_
           by_cases hlf0 : lf ≥ 0
           ·
            refine o_step rfl (step_cast (v' := .bool true) (s_geq rfl rfl) (by rw [decide_eq_true (by omega)])) ?_
            refine o_step rfl (s_pick_t rfl rfl) ?_
            refine o_nil ?_
            refine x_then (hK27 _ _ ?_)
            refine c_true rfl ?_
            refine c_skip ?_
            refine x_then (hK26 _ _ ?_)
            refine c_seq fun _ hK28 => ?_
            refine c_block ?_
            refine c_seq fun _ hK29 => ?_
            refine c_region ?_
            refine o_step rfl (s_move rfl) ?_
            refine o_step rfl (s_move rfl) ?_
            refine o_step rfl (s_move rfl) ?_
            refine o_step rfl (s_move rfl) ?_
            refine o_step rfl (s_move rfl) ?_
            refine o_step rfl (s_move rfl) ?_
            refine o_step rfl (s_move rfl) ?_
            refine o_call (hN y js kp _ hp1 i j hij hjn c (New ++ Pool) (hc.mono hiA) lf (by omega) (by omega) (by omega)) rfl rfl rfl ((Pick.takeC pkA pkA)) (fun _ st => ⟨(RdK.old hw.d1 hw.a1).out _ st, St.apart_M st (by exact hiB) hw.d1 hw.a1 (by decide), (RdK.old hw.d2 hw.a2).out _ st, St.apart_M st (by exact hiB) hw.d2 hw.a2 (by decide)⟩) (fun v130 S130 ⟨a130, c130, zs130, Sz130, New130, lf130, hv130, hS130, hO130, hP130, hk130, hl130, hb130, hC130⟩ => ?_)
            subst hv130
            subst hS130
            refine o_call (tAllV_fn K.bT K.ra K.rc K.re K.n K.ha K.hc K.hl lf130 ao co os So hO a130 c130 zs130 Sz130 (New130 ++ (New ++ Pool)) hO130 K.N (hPo.mono hiB) hP130 hNl (by omega) hb130 (by omega) (by omega)) rfl rfl rfl ((Pick.takeC pkA (Pick.takeA pkA pkA))) (fun _ _ => trivial) (fun v131 S131 ⟨a131, c131, zs131, SL131, lf131, hv131, hS131, hO131, hP131, hk131, hl131, hb131, hC131⟩ => ?_)
            subst hv131
            subst hS131
            refine o_step rfl (s_assign rfl) ?_
            refine o_nil ?_
            refine x_then (hK29 _ _ ?_)
            refine c_region ?_
            refine o_step rfl (s_move rfl) ?_
            refine o_step rfl (s_nil rfl) ?_
            refine o_step rfl (s_field rfl rfl (by decide)) ?_
            refine o_step rfl (s_ld rfl (.own meA rfl)) ?_
            refine o_step rfl (s_move rfl) ?_
            refine o_step rfl (s_idx rfl rfl hhs (by omega)) ?_
            refine o_step rfl (s_ld rfl ((RdK.old hw.d2 hw.a2).ld kp 0 hby2 rfl (by decide) (by omega))) ?_
            refine o_step rfl (s_assign rfl) ?_
            refine o_nil ?_
            refine x_block ?_
            refine x_then (hK28 _ _ ?_)
            refine c_region ?_
            refine o_step rfl (s_move rfl) ?_
            refine o_step rfl (s_add rfl rfl (by omega)) ?_
            refine o_step rfl (s_assign rfl) ?_
            refine o_nil ?_
            have hAn : 0 ≤ lf131 → ∃ kk, AltPre K.n ks r i j c.xs (zs131.map Sl.xs) kk ∧ (kk : Int) ≤ 3 * (left - 1 - lf131) := fun h0 => by
              obtain ⟨u1, u2, u3⟩ := hC131 h0
              obtain ⟨kk, w1, w2⟩ := hAc (by omega)
              obtain ⟨kn, n1, n2⟩ := hC130 (by omega)
              refine ⟨kk + kn, w1.step n1 (fun d hd => by obtain ⟨s, s1, s2⟩ := List.mem_map.1 hd; exact List.mem_map.2 ⟨s, u1 s s1, s2⟩) (fun d hd => by obtain ⟨s, s1, s2⟩ := List.mem_map.1 hd; rw [← s2]; exact u2 s s1), by omega⟩
            exact x_then (x_inv (k + 1, (kp + 1 + js.size), r, a131, c131, zs131, SL131, New130 ++ New, lf131) ⟨hpr, by simp only [F.num] at hkn; dsimp only; omega, hO131, by rw [List.append_assoc]; exact hP131, by dsimp only; omega, by dsimp only; omega, hb131, hAn⟩ (by simp only [F.size]; omega) sbA (by simp only [List.append_assoc]; exact hzB))
           ·
            refine o_step rfl (step_cast (v' := .bool false) (s_geq rfl rfl) (by rw [decide_eq_false (by omega)])) ?_
            refine o_step rfl (s_pick_t rfl rfl) ?_
            refine o_nil ?_
            refine x_then (hK27 _ _ ?_)
            refine c_false rfl ?_
            refine c_exit ?_
            refine x_then_exit ?_
            refine x_then_exit ?_
            refine x_block_exit ?_
            refine x_then (hK24 _ _ ?_)
            refine c_seq fun _ hK30 => ?_
            refine c_region ?_
            refine o_step rfl (s_move rfl) ?_
            refine o_step rfl (s_assign rfl) ?_
            refine o_nil ?_
            refine x_then (hK30 _ _ ?_)
            refine c_ret ?_
            refine x_block_ret (x_then_ret (?_))
            refine x_sub (Sub.refl _) (H' := (K.bT, .cells [.slice K.ra K.re.length K.rc, .int .i64 (K.n : Nat), .slice K.ha K.hl.length K.hc, .int .i64 lf].toArray 144 (0, 0)) :: (So ++ (New ++ Pool))) hzB ?_
            exact x_ret rfl (.tmp rfl (.nil)) (⟨ao, co, os, So, New, lf, rfl, rfl, hO, hPo, by omega, by omega, hlo, fun h0 => (by first | exact absurd h0 (by omega) | (obtain ⟨kk, w1, w2⟩ := hAc h0; exact ⟨kk + 1, .altC o5 w1.done (Nat.le_refl _), by omega⟩))⟩)
          ·
           obtain rfl : g = F.nil := F.num_nil (by omega)
           refine o_step rfl (step_cast (v' := .bool false) (s_lss rfl rfl) (by rw [decide_eq_false (by omega)])) ?_
           refine o_step rfl (s_move rfl) ?_
           refine o_no rfl rfl rfl rfl ?_
           refine o_no rfl rfl rfl rfl ?_
           refine o_no rfl rfl rfl rfl ?_
           refine o_no rfl rfl rfl rfl ?_
           refine o_no rfl rfl rfl rfl ?_
           refine o_step rfl (s_pick_f rfl rfl) ?_
           refine o_nil ?_
           refine x_then (hK27 _ _ ?_)
           refine c_false rfl ?_
           refine c_exit ?_
           refine x_then_exit ?_
           refine x_then_exit ?_
           refine x_block_exit ?_
           refine x_then (hK24 _ _ ?_)
           refine c_seq fun _ hK31 => ?_
           refine c_region ?_
           refine o_step rfl (s_move rfl) ?_
           refine o_step rfl (s_assign rfl) ?_
           refine o_nil ?_
           refine x_then (hK31 _ _ ?_)
           refine c_ret ?_
           refine x_block_ret (x_then_ret (?_))
           refine x_sub (Sub.refl _) (H' := (K.bT, .cells [.slice K.ra K.re.length K.rc, .int .i64 (K.n : Nat), .slice K.ha K.hl.length K.hc, .int .i64 lf].toArray 144 (0, 0)) :: (So ++ (New ++ Pool))) hzB ?_
           exact x_ret rfl (.tmp rfl (.nil)) (⟨ao, co, os, So, New, lf, rfl, rfl, hO, hPo, by omega, by omega, hlo, fun h0 => (by first | exact absurd h0 (by omega) | (obtain ⟨kk, w1, w2⟩ := hAc h0; exact ⟨kk + 1, .altC o5 w1.done (Nat.le_refl _), by omega⟩))⟩)
         ·
          refine o_step rfl (step_cast (v' := .bool false) (s_eql rfl rfl) (by rw [decide_eq_false o5])) ?_
          refine o_step rfl (s_assign rfl) ?_
          refine o_nil ?_
          refine x_then (hK21 _ _ ?_)
          refine c_false rfl ?_
          refine c_seq fun _ hK32 => ?_
          refine c_region ?_
          by_cases o6 : x.op = 6
          ·
           obtain ⟨y, js, rfl⟩ := one_kid hp.wf (.inl o6)
           refine o_step rfl (step_cast (v' := .bool true) (s_eql rfl rfl) (by rw [decide_eq_true o6])) ?_
           refine o_step rfl (s_assign rfl) ?_
           refine o_nil ?_
           refine x_then (hK32 _ _ ?_)
           refine c_true rfl ?_
           refine c_seq fun _ hK33 => ?_
           refine c_region ?_
           refine o_step rfl (s_move rfl) ?_
           refine o_step rfl (s_move rfl) ?_
           refine o_step rfl (s_move rfl) ?_
           refine o_step rfl (s_move rfl) ?_
           refine o_step rfl (s_move rfl) ?_
           refine o_call (hRo x y js at_ i1 o6 hp 0 (by omega) i j hij hjn c Pool hc (left - 1) (by omega) (by omega) (by omega) (by omega)) rfl rfl rfl ((Pick.takeC pkA pkA)) (fun _ st => ⟨(RdK.old hw.d1 hw.a1).out _ st, St.apart_M st (by exact hiB) hw.d1 hw.a1 (by decide), (RdK.old hw.d2 hw.a2).out _ st, St.apart_M st (by exact hiB) hw.d2 hw.a2 (by decide)⟩) (fun v147 S147 ⟨a147, c147, zs147, Sz147, New147, lf147, hv147, hS147, hO147, hP147, hk147, hl147, hb147, hC147⟩ => ?_)
           subst hv147
           subst hS147
           refine o_step rfl (s_assign rfl) ?_
           refine o_nil ?_
           refine x_then (hK33 _ _ ?_)
           refine c_ret ?_
           refine x_block_ret (x_then_ret (?_))
           refine x_sub (Sub.refl _) (H' := (K.bT, .cells [.slice K.ra K.re.length K.rc, .int .i64 (K.n : Nat), .slice K.ha K.hl.length K.hc, .int .i64 lf147].toArray 144 (0, 0)) :: (Sz147 ++ (New147 ++ Pool))) hzB ?_
           exact x_ret rfl (.tmp rfl (.nil)) (⟨a147, c147, zs147, Sz147, New147, lf147, rfl, rfl, hO147, hP147, by omega, by omega, hb147, fun h0 => (by obtain ⟨k0, w1, w2⟩ := hC147 h0; exact ⟨k0 + 2, .rep o6 w1 (Nat.le_refl _), by omega⟩)⟩)
          ·
           refine o_step rfl (step_cast (v' := .bool false) (s_eql rfl rfl) (by rw [decide_eq_false o6])) ?_
           refine o_step rfl (s_assign rfl) ?_
           refine o_nil ?_
           refine x_then (hK32 _ _ ?_)
           refine c_false rfl ?_
           refine c_seq fun _ hK34 => ?_
           refine c_region ?_
           by_cases o7 : x.op = 7
           ·
            obtain ⟨y, js, rfl⟩ := one_kid hp.wf (.inr o7)
            have hp1 := hpk.one
            have hgr := hK.grp x hxm o7
            refine o_step rfl (step_cast (v' := .bool true) (s_eql rfl rfl) (by rw [decide_eq_true o7])) ?_
            refine o_step rfl (s_assign rfl) ?_
            refine o_nil ?_
            refine x_then (hK34 _ _ ?_)
            refine c_true rfl ?_
            refine c_seq fun _ hK35 => ?_
            refine c_region ?_
            refine o_step rfl (s_move rfl) ?_
            refine o_step rfl (s_move rfl) ?_
            refine o_step rfl (s_add rfl rfl (by omega)) ?_
            refine o_step rfl (s_move rfl) ?_
            refine o_step rfl (s_move rfl) ?_
            refine o_step rfl (s_move rfl) ?_
            refine o_step rfl (s_move rfl) ?_
            refine o_step rfl (s_move rfl) ?_
            refine o_step rfl (s_add rfl rfl (by omega)) ?_
            refine o_step rfl (s_move rfl) ?_
            refine o_step rfl (s_nil rfl) ?_
            refine o_step rfl (s_field rfl rfl (by decide)) ?_
            refine o_step rfl (s_ld rfl (.own meA rfl)) ?_
            refine o_step rfl (s_move rfl) ?_
            refine o_step rfl (s_idx rfl rfl hhs (by omega)) ?_
            refine o_step rfl (s_ld rfl ((RdK.old hw.d2 hw.a2).ld at_ 0 hby rfl (by decide) (by omega))) ?_
            refine o_call (tEmptiedV_fn K.bT _ K.ra K.rc K.re hK.rng hrl K.N hNl hK.grp c.a c.c c.xs hc.1 (at_ + 1) (at_ + 1 + (F.nd y js .nil).size) hbz) rfl rfl rfl (by exact .nil) (fun _ st => ⟨(RdPK.own meA).out _ st, (RdK.old hw.d1 hw.a1).out _ st, (hc.2.2.rdk hiA).out _ st⟩) (fun v166 S166 ⟨a166, c166, hv166, hO166⟩ => ?_)
            subst hv166
            rw [empTo_part hpk] at hO166
            have hx166 : (emp (F.nd y js .nil).flat c.xs).length = K.N := by rw [emp_len]; exact hc.1
            generalize hE : emp (F.nd y js .nil).flat c.xs = xs166 at hO166 hx166
            rw [← hx166] at hO166
            rw [← hx166]
            refine o_call (hN y js (at_ + 1) _ hp1 i j hij hjn ⟨a166, c166, xs166⟩ (S166 ++ Pool) ⟨hx166, hO166.sl, hO166.rds.mono hiA⟩ (left - 1) (by omega) (by omega) (by omega)) rfl rfl rfl ((Pick.takeC pkA (Pick.takeA pkA pkA))) (fun _ st => ⟨(RdK.old hw.d1 hw.a1).out _ st, St.apart_M st (by exact hiB) hw.d1 hw.a1 (by decide), (RdK.old hw.d2 hw.a2).out _ st, St.apart_M st (by exact hiB) hw.d2 hw.a2 (by decide)⟩) (fun v167 S167 ⟨a167, c167, zs167, Sz167, New167, lf167, hv167, hS167, hO167, hP167, hk167, hl167, hb167, hC167⟩ => ?_)
            subst hv167
            subst hS167
            refine o_step rfl (s_assign rfl) ?_
            refine o_nil ?_
            refine x_then (hK35 _ _ ?_)
            refine c_seq fun _ hK36 => ?_
            refine c_region ?_
            refine o_step rfl (s_assign rfl) ?_
            refine o_nil ?_
            refine x_then (hK36 _ _ ?_)
            refine c_seq fun _ hK37 => ?_
            refine c_seq fun _ hK38 => ?_
            refine c_region ?_
            refine o_step rfl (s_assign rfl) ?_
            refine o_nil ?_
            refine x_then (hK38 _ _ ?_)
            refine c_block ?_
            refine c_loop7 (fun (k : Nat) (ao : Option Addr) (co : Nat) (os : List (Sl Sp)) (So : Hp) (New : Hp) (lf : Int) => k ≤ zs167.length ∧ OwnS Esl 1 32 (.slice ao os.length co) os So ∧ PoolR os K.N (New ++ Pool) ∧ (os.length : Int) + lf ≤ left - 1 ∧ lf ≤ left - 1 ∧ -700000 ≤ lf ∧ PoolR zs167 K.N (New ++ Pool) ∧ (0 ≤ lf → (∀ (m : Nat) s, m < k → zs167[m]? = some s → s.xs.set (x.n - 1).toNat ⟨i, j⟩ ∈ os.map Sl.xs) ∧ lf + k ≤ lf167)) (fun (k : Nat) (ao : Option Addr) (co : Nat) (os : List (Sl Sp)) (So : Hp) (New : Hp) (lf : Int) => [(19, .int .i64 k), (18, .slice ao os.length co)]) [(0, _), (2, _), (3, _), (4, _), (10, _), (11, _), (12, _), (17, _)] (fun (k : Nat) (ao : Option Addr) (co : Nat) (os : List (Sl Sp)) (So : Hp) (New : Hp) (lf : Int) => (b11, .cells (En x).toArray 80 (0, 0)) :: (K.bT, .cells [.slice K.ra K.re.length K.rc, .int .i64 (K.n : Nat), .slice K.ha K.hl.length K.hc, .int .i64 lf].toArray 144 (0, 0)) :: (So ++ (Sz167 ++ (New ++ Pool)))) (fun (k : Nat) (ao : Option Addr) (co : Nat) (os : List (Sl Sp)) (So : Hp) (New : Hp) (lf : Int) => zs167.length - k) 0 none 0 [] [] (New167 ++ S166) lf167 ⟨Nat.zero_le _, .nil, fun s hs => (by cases hs), by simp; omega, by omega, hb167, by rw [List.append_assoc]; exact hP167, fun _ => ⟨fun m s h => absurd h (Nat.not_lt_zero _), by omega⟩⟩ sbA sbA (by simp only [List.append_assoc]; exact hzB) ?_
            rintro k ao co os So New lf ⟨hk, hO, hPo, hko, hlf, hlo, hPz, hAc⟩
            refine c_seq fun _ hK39 => ?_
            refine c_seq fun _ hK40 => ?_
            refine c_region ?_
            refine o_step rfl (s_move rfl) ?_
            refine o_step rfl (s_move rfl) ?_
            refine o_step rfl (s_len rfl) ?_
            by_cases hkl : (k : Int) < zs167.length
            ·
             obtain ⟨z, hzk⟩ : ∃ z, zs167[k]? = some z := ⟨_, List.getElem?_eq_getElem (by omega)⟩
             have hzp := hPz z (List.mem_of_getElem? hzk)
             have hzN := hzp.1
             have hzs := hzp.2.1
             refine o_step rfl (step_cast (v' := .bool true) (s_lss rfl rfl) (by rw [decide_eq_true (by omega)])) ?_
             refine o_step rfl (s_move rfl) ?_
             refine o_yes rfl rfl ?_
             refine o_step rfl (s_move rfl) ?_
             refine o_yes rfl rfl ?_
             refine o_step rfl (s_nil rfl) ?_
             refine o_yes rfl rfl ?_
             refine o_step rfl (s_field rfl rfl (by decide)) ?_
             refine o_yes rfl rfl ?_
             refine o_step rfl (s_ld rfl (.own meA rfl)) ?_
             refine o_yes rfl rfl ?_
             by_cases hlf1 : lf ≥ 0
             ·
              refine o_step rfl (step_cast (v' := .bool true) (s_geq rfl rfl) (by rw [decide_eq_true (by omega)])) ?_
              refine o_step rfl (s_pick_t rfl rfl) ?_
              refine o_nil ?_
              refine x_then (hK40 _ _ ?_)
              refine c_true rfl ?_
              refine c_skip ?_
              refine x_then (hK39 _ _ ?_)
              refine c_seq fun _ hK41 => ?_
              refine c_block ?_
              refine c_seq fun _ hK42 => ?_
              refine c_region ?_
              refine o_step rfl (s_assign rfl) ?_
              refine o_nil ?_
              refine x_then (hK42 _ _ ?_)
              refine c_seq fun _ hK43 => ?_
              refine c_region ?_
              refine o_step rfl (s_move rfl) ?_
              refine o_step rfl (s_move rfl) ?_
              refine o_step rfl (s_move rfl) ?_
              refine o_step rfl (s_idx rfl rfl hO167.sl (by omega)) ?_
              refine o_step rfl (s_ld rfl ((hO167.rdk hiA).ld k 0 hzk rfl (by decide) (by omega))) ?_
              refine o_app (OwnS.nil : OwnS Esp 2 45 (.slice none 0 0) [] []) (hzp.2.2.rdk hiA) rfl rfl rfl rfl (by simp; omega) (by simp; omega) rfl (by exact .nil) fun a186 c186 S186 hS186 => ?_
              rw [List.nil_append] at hS186
              rw [List.nil_append]
              refine o_step rfl (s_assign rfl) ?_
              refine o_nil ?_
              refine x_then (hK43 _ _ ?_)
              refine c_seq fun _ hK44 => ?_
              refine c_region ?_
              refine o_step rfl (s_move rfl) ?_
              refine o_step rfl (s_field rfl rfl (by decide)) ?_
              refine o_step rfl (s_ld rfl (.own meA rfl)) ?_
              refine o_step rfl (s_sub rfl rfl (by omega)) ?_
              refine o_step rfl (s_move rfl) ?_
              refine o_step rfl (s_move rfl) ?_
              refine o_step rfl (s_build (cs := [_, _]) (vs := [_, _]) rfl rfl (.cons rfl rfl rfl rfl rfl (.cons rfl rfl rfl rfl rfl (.nil)))) ?_
              refine o_step rfl (s_idx rfl rfl hS186.sl (by omega)) ?_
              refine o_stSE (x.n - 1).toNat ⟨i, j⟩ hS186 pkA rfl rfl (by omega) (by rfl) fun S' hS' => ?_
              have hrow : RowP K.N S' ⟨a186, c186, z.xs.set (x.n - 1).toNat ⟨i, j⟩⟩ := ⟨by rw [List.length_set]; exact hzN, by have h := hS'.sl; simpa [Sl.v] using h, by have h := hS'.rds; simpa [Sl.v] using h⟩
              refine o_nil ?_
              refine x_then (hK44 _ _ ?_)
              refine c_region ?_
              refine o_step rfl (s_move rfl) ?_
              refine o_step rfl (s_move rfl) ?_
              refine o_step rfl (step_cast (v' := .slice a186 (z.xs.set (x.n - 1).toNat ⟨i, j⟩).length c186) (s_move rfl) (by rw [List.length_set])) ?_
              refine o_bs (E := Esl) (xs := [(⟨a186, c186, z.xs.set (x.n - 1).toNat ⟨i, j⟩⟩ : Sl Sp)]) (vs := [_]) rfl rfl rfl rfl rfl (by decide) (by decide) fun b198 S198 hS198 => ?_
              refine o_call (tAllV_fn K.bT K.ra K.rc K.re K.n K.ha K.hc K.hl lf ao co os So hO _ _ [(⟨a186, c186, z.xs.set (x.n - 1).toNat ⟨i, j⟩⟩ : Sl Sp)] S198 (S' ++ (New ++ Pool)) hS198 K.N (hPo.mono hiA) (fun s hs => by rw [List.mem_singleton.1 hs]; exact hrow.mono hiA) hNl (by omega) hlo (by simp) (by omega)) rfl rfl rfl ((Pick.takeC pkA (Pick.takeA pkA (Pick.takeA pkA pkA)))) (fun _ _ => trivial) (fun v199 S199 ⟨a199, c199, zs199, SL199, lf199, hv199, hS199, hO199, hP199, hk199, hl199, hb199, hC199⟩ => ?_)
              subst hv199
              subst hS199
              refine o_step rfl (s_assign rfl) ?_
              refine o_nil ?_
              refine x_block ?_
              refine x_then (hK41 _ _ ?_)
              refine c_region ?_
              refine o_step rfl (s_move rfl) ?_
              refine o_step rfl (s_add rfl rfl (by omega)) ?_
              refine o_step rfl (s_assign rfl) ?_
              refine o_nil ?_
              have hAn : 0 ≤ lf199 → (∀ (m : Nat) s, m < k + 1 → zs167[m]? = some s → s.xs.set (x.n - 1).toNat ⟨i, j⟩ ∈ zs199.map Sl.xs) ∧ lf199 + (k + 1 : Nat) ≤ lf167 := fun h0 => by
                obtain ⟨u1, u2, u3⟩ := hC199 h0
                obtain ⟨q1, q2⟩ := hAc (by omega)
                refine ⟨fun m s hm hs => ?_, by simp only [List.length_singleton] at u3; omega⟩
                by_cases e : m = k
                · subst e; rw [hzk] at hs; cases hs; exact u2 _ (List.mem_singleton_self _)
                · obtain ⟨s2, s3, s4⟩ := List.mem_map.1 (q1 m s (by omega) hs); exact List.mem_map.2 ⟨s2, u1 s2 s3, s4⟩
              exact x_then (x_inv (k + 1, a199, c199, zs199, SL199, S' ++ New, lf199) ⟨by dsimp only; omega, hO199, by rw [List.append_assoc]; exact hP199, by dsimp only; (try simp only [List.length_singleton] at hk199); omega, by dsimp only; omega, hb199, by rw [List.append_assoc]; exact hPz.mono (HIn.app HIn.all), hAn⟩ (by first | omega | (dsimp only; omega)) sbA (by simp only [List.append_assoc]; exact hzB))
             ·
              refine o_step rfl (step_cast (v' := .bool false) (s_geq rfl rfl) (by rw [decide_eq_false (by omega)])) ?_
              refine o_step rfl (s_pick_t rfl rfl) ?_
              refine o_nil ?_
              refine x_then (hK40 _ _ ?_)
              refine c_false rfl ?_
              refine c_exit ?_
              refine x_then_exit ?_
              refine x_then_exit ?_
              refine x_block_exit ?_
              refine x_then (hK37 _ _ ?_)
              refine c_seq fun _ hK45 => ?_
              refine c_region ?_
              refine o_step rfl (s_move rfl) ?_
              refine o_step rfl (s_assign rfl) ?_
              refine o_nil ?_
              refine x_then (hK45 _ _ ?_)
              refine c_ret ?_
              refine x_block_ret (x_then_ret (?_))
              refine x_sub (Sub.refl _) (H' := (K.bT, .cells [.slice K.ra K.re.length K.rc, .int .i64 (K.n : Nat), .slice K.ha K.hl.length K.hc, .int .i64 lf].toArray 144 (0, 0)) :: (So ++ (New ++ Pool))) hzB ?_
              exact x_ret rfl (.tmp rfl (.nil)) (⟨ao, co, os, So, New, lf, rfl, rfl, hO, hPo, by omega, by omega, hlo, fun h0 => (by first | exact absurd h0 (by omega) | (obtain ⟨q1, q2⟩ := hAc h0; subst hE; obtain ⟨kk, w1, w2⟩ := hC167 (by omega); exact ⟨_, .grp o7 w1 (fun d hd => by obtain ⟨s, s1, s2⟩ := List.mem_map.1 hd; obtain ⟨m, hm⟩ := List.mem_iff_getElem?.1 s1; rw [← s2, show x.n.toNat - 1 = (x.n - 1).toNat by omega]; exact q1 m s (by have := (List.getElem?_eq_some_iff.1 hm).1; omega) hm) (Nat.le_refl _), by rw [List.length_map]; omega⟩))⟩)
            ·
             refine o_step rfl (step_cast (v' := .bool false) (s_lss rfl rfl) (by rw [decide_eq_false (by omega)])) ?_
             refine o_step rfl (s_move rfl) ?_
             refine o_no rfl rfl rfl rfl ?_
             refine o_no rfl rfl rfl rfl ?_
             refine o_no rfl rfl rfl rfl ?_
             refine o_no rfl rfl rfl rfl ?_
             refine o_no rfl rfl rfl rfl ?_
             refine o_step rfl (s_pick_f rfl rfl) ?_
             refine o_nil ?_
             refine x_then (hK40 _ _ ?_)
             refine c_false rfl ?_
             refine c_exit ?_
             refine x_then_exit ?_
             refine x_then_exit ?_
             refine x_block_exit ?_
             refine x_then (hK37 _ _ ?_)
             refine c_seq fun _ hK46 => ?_
             refine c_region ?_
             refine o_step rfl (s_move rfl) ?_
             refine o_step rfl (s_assign rfl) ?_
             refine o_nil ?_
             refine x_then (hK46 _ _ ?_)
             refine c_ret ?_
             refine x_block_ret (x_then_ret (?_))
             refine x_sub (Sub.refl _) (H' := (K.bT, .cells [.slice K.ra K.re.length K.rc, .int .i64 (K.n : Nat), .slice K.ha K.hl.length K.hc, .int .i64 lf].toArray 144 (0, 0)) :: (So ++ (New ++ Pool))) hzB ?_
             exact x_ret rfl (.tmp rfl (.nil)) (⟨ao, co, os, So, New, lf, rfl, rfl, hO, hPo, by omega, by omega, hlo, fun h0 => (by first | exact absurd h0 (by omega) | (obtain ⟨q1, q2⟩ := hAc h0; subst hE; obtain ⟨kk, w1, w2⟩ := hC167 (by omega); exact ⟨_, .grp o7 w1 (fun d hd => by obtain ⟨s, s1, s2⟩ := List.mem_map.1 hd; obtain ⟨m, hm⟩ := List.mem_iff_getElem?.1 s1; rw [← s2, show x.n.toNat - 1 = (x.n - 1).toNat by omega]; exact q1 m s (by have := (List.getElem?_eq_some_iff.1 hm).1; omega) hm) (Nat.le_refl _), by rw [List.length_map]; omega⟩))⟩)
           ·
            refine o_step rfl (step_cast (v' := .bool false) (s_eql rfl rfl) (by rw [decide_eq_false o7])) ?_
            refine o_step rfl (s_assign rfl) ?_
            refine o_nil ?_
            refine x_then (hK34 _ _ ?_)
            refine c_false rfl ?_
            refine c_skip ?_
            refine x_block ?_
            exact x_then (hJ8 false _ _ (by exfalso; omega) sbA sbA hzB)
end Go.Proofs.YtloepfcndglmmaaDoor
