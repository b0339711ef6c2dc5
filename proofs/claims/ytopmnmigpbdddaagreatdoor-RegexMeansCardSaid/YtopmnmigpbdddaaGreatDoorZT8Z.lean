/- Part of the proofs over this seat: see the text that holds the theorem. Conditions: each theorem bears its own. -/
import Derived.Test.YtopmnmigpbdddaaGreatDoorZT7
import Derived.Test.YtopmnmigpbdddaaGreatDoorMK5Z
import Derived.Test.YtopmnmigpbdddaaGreatDoorHTZ
import Derived.Test.YtopmnmigpbdddaaGreatDoorMT3Z
import Derived.Test.YtopmnmigpbdddaaGreatDoorMT7Z
import Derived.Test.YtopmnmigpbdddaaGreatDoorZE3Z
namespace Go.Proofs.YtopmnmigpbdddaaGreatDoor
open Go Go.HL Go.Proofs Go.HL.Kl Go.HL.Kl.Mc Go.HL.Kl.Mc.AskE
set_option maxHeartbeats 4000000 in
theorem node_stepO (K : TalE) (hK : K.ok) (L : Nat) (hN : K.NodeT L) (hR : ∀ f, K.RowT L f) (hRo : K.RoundsT L) (x : Nd) (ks : F) (at_ i1 : Nat) (hp : Part K.re (.nd x ks .nil) at_ i1) (i j : Nat) (hij : i ≤ j) (hjn : j ≤ K.n) (c : Sl Sp) (Pool : Hp) (hc : RowP K.N Pool c) (left : Int) (h0 : 0 ≤ left) (hL : left < L + 1) (h5 : left ≤ 500000) : HL.Fn Tryz.prog 165 [pt K.bT, .int .i64 at_, .int .i64 i, .int .i64 j, .slice c.a c.xs.length c.c] (fun W => K.Env W ((K.bT, .cells [.slice K.ra K.re.length K.rc, .int .i64 (K.n : Nat), .slice K.ha K.hl.length K.hc, .int .i64 left].toArray 255 (0, 0)) :: Pool)) ((K.bT, .cells [.slice K.ra K.re.length K.rc, .int .i64 (K.n : Nat), .slice K.ha K.hl.length K.hc, .int .i64 left].toArray 255 (0, 0)) :: Pool) (K.Post left 0 Pool) := by
  refine fn_of Tryz.func165 rfl rfl rfl fun w0 hw => ?_
  have hnl := hK.nl
  have hNl := hK.Nl
  have hrl := hK.rl
  have hhs := hw.d2.sl
  have hres := hw.d1.sl
  have hple := hp.le
  have hpl := hp.len
  obtain ⟨hx, hpk, _⟩ := hp.head
  have hxm := List.mem_of_getElem? hx
  have hxr := hK.rng x hxm
  have hby := hK.beh _ _ _ _ _ hp
  have hbl := (List.getElem?_eq_some_iff.1 hby).1
  have hbz : at_ + 1 + ks.size ≤ K.re.length := hpk.le
  have hat := (List.getElem?_eq_some_iff.1 hx).1
  have hcx := hc.1
  have hnks := F.num_le ks
  have hkn0 : (ks.num : Int) = x.kids := hp.wf.2.1
  refine c_seq fun _ hK1 => ?_; refine c_region ?_; refine o_step rfl (s_assign rfl) ?_; refine o_nil ?_; refine x_then (hK1 _ _ ?_); refine c_seq fun _ hK2 => ?_; refine c_region ?_; refine o_step rfl (s_move rfl) ?_; refine o_step rfl (s_nil rfl) ?_; refine o_step rfl (s_field rfl rfl (by decide)) ?_; refine o_step rfl (s_ld rfl (.own meA rfl)) ?_; refine o_step rfl (s_sub rfl rfl (by omega)) ?_; refine o_step rfl (s_nil rfl) ?_; refine o_step rfl (s_field rfl rfl (by decide)) ?_; refine o_store rfl rfl rfl upA ltA rfl ?_; refine o_nil ?_; refine x_then (hK2 _ _ ?_); refine c_seq fun _ hK3 => ?_; refine c_seq fun _ hK4 => ?_; refine c_region ?_; refine o_step rfl (s_move rfl) ?_; refine o_step rfl (s_nil rfl) ?_; refine o_step rfl (s_field rfl rfl (by decide)) ?_; refine o_step rfl (s_ld rfl (.own meA rfl)) ?_
  by_cases hl0 : left - 1 < 0
  ·
   refine o_step rfl (step_cast (v' := .bool true) (s_lss rfl rfl) (by rw [decide_eq_true (by omega)])) ?_; refine o_nil ?_; refine x_then (hK4 _ _ ?_); refine c_true rfl ?_; refine c_seq fun _ hK5 => ?_; refine c_region ?_; refine o_step rfl (s_assign rfl) ?_; refine o_nil ?_; refine x_then (hK5 _ _ ?_); refine c_ret ?_; refine x_then_ret (?_); refine x_sub (Sub.refl _) (H' := (K.bT, .cells [.slice K.ra K.re.length K.rc, .int .i64 (K.n : Nat), .slice K.ha K.hl.length K.hc, .int .i64 (left - 1)].toArray 255 (0, 0)) :: ([] ++ ([] ++ Pool))) (by simpa using hzB) ?_; exact x_ret rfl (.tmp rfl (.nil)) (⟨none, 0, [], [], [], left - 1, rfl, rfl, .nil, fun s hs => (by cases hs), by simp; omega, by omega, by omega⟩)
  ·
   refine o_step rfl (step_cast (v' := .bool false) (s_lss rfl rfl) (by rw [decide_eq_false (by omega)])) ?_; refine o_nil ?_; refine x_then (hK4 _ _ ?_); refine c_false rfl ?_; refine c_skip ?_; refine x_then (hK3 _ _ ?_); refine c_seq fun _ hK6 => ?_; refine c_region ?_; refine o_step rfl (s_move rfl) ?_; refine o_step rfl (s_nil rfl) ?_; refine o_step rfl (s_field rfl rfl (by decide)) ?_; refine o_step rfl (s_ld rfl (.own meA rfl)) ?_; refine o_step rfl (s_move rfl) ?_; refine o_step rfl (s_idx rfl rfl hres (by omega)) ?_; refine o_step rfl (s_ldB rfl ((RdK.old hw.d1 hw.a1).lds at_ hx rfl) (by rfl)) ?_; refine o_alloc (l := En zN) (by rw [En_zero]; rfl) rfl fun b11 => ?_; refine o_stW rfl rfl upA lnA lnA onA ?_; refine o_nil ?_; refine x_then (hK6 _ _ ?_); refine c_seq fun _ hK7 => ?_; refine c_region ?_; refine o_step rfl (s_assign rfl) ?_; refine o_nil ?_; refine x_then (hK7 _ _ ?_)
   refine c_seqJ (ι := Bool) (fun gd => True) (fun gd => [(12, .bool gd)]) [(4, _)] (fun gd => (K.bT, .cells [.slice K.ra K.re.length K.rc, .int .i64 (K.n : Nat), .slice K.ha K.hl.length K.hc, .int .i64 (left - 1)].toArray 255 (0, 0)) :: Pool) sbA ?_ ?_
   ·
    rintro gd _
    refine c_seq fun _ hK9 => ?_; refine c_seq fun _ hK10 => ?_; refine c_region ?_
    by_cases hgd : gd = true
    ·
     refine o_step rfl (step_cast (v' := .bool true) (s_move rfl) (by rw [hgd])) ?_; refine o_step rfl (s_not rfl) ?_; refine o_nil ?_; refine x_then (hK10 _ _ ?_); refine c_false rfl ?_; refine c_skip ?_; refine x_then (hK9 _ _ ?_); refine c_seq fun _ hK11 => ?_; refine c_region ?_; refine o_step rfl (s_move rfl) ?_; refine o_bs (E := Esl) (xs := [c]) (vs := [_]) rfl rfl rfl rfl rfl (by decide) (by decide) fun b204 S204 hS204 => ?_; refine o_step rfl (s_assign rfl) ?_; refine o_nil ?_; refine x_then (hK11 _ _ ?_); refine c_ret ?_; refine ?_; refine x_sub (Sub.refl _) (H' := (K.bT, .cells [.slice K.ra K.re.length K.rc, .int .i64 (K.n : Nat), .slice K.ha K.hl.length K.hc, .int .i64 (left - 1)].toArray 255 (0, 0)) :: (S204 ++ ([] ++ Pool))) (by simpa using hzB) ?_; exact x_ret rfl (.tmp rfl (.nil)) (⟨_, _, [c], S204, [], left - 1, rfl, rfl, hS204, fun s hs => by rw [List.mem_singleton.1 hs]; exact hc, by simp; omega, by omega, by omega⟩)
    ·
     refine o_step rfl (step_cast (v' := .bool false) (s_move rfl) (by rw [Bool.eq_false_iff.2 hgd])) ?_; refine o_step rfl (s_not rfl) ?_; refine o_nil ?_; refine x_then (hK10 _ _ ?_); refine c_true rfl ?_; refine c_seq fun _ hK12 => ?_; refine c_region ?_; refine o_step rfl (s_assign rfl) ?_; refine o_nil ?_; refine x_then (hK12 _ _ ?_); refine c_ret ?_; refine x_then_ret (?_); refine x_sub (Sub.refl _) (H' := (K.bT, .cells [.slice K.ra K.re.length K.rc, .int .i64 (K.n : Nat), .slice K.ha K.hl.length K.hc, .int .i64 (left - 1)].toArray 255 (0, 0)) :: ([] ++ ([] ++ Pool))) (by simpa using hzB) ?_; exact x_ret rfl (.tmp rfl (.nil)) (⟨none, 0, [], [], [], left - 1, rfl, rfl, .nil, fun s hs => (by cases hs), by simp; omega, by omega, by omega⟩)
   ·
    intro _ hJ8
    refine c_seq fun _ hK13 => ?_; refine c_region ?_; refine o_step rfl (s_field rfl rfl (by decide)) ?_; refine o_step rfl (s_ld rfl (.own meA rfl)) ?_; refine o_step rfl (s_convI rfl (by omega)) ?_; refine o_nil ?_; refine x_then (hK13 _ _ ?_); refine c_block ?_; refine c_seq fun _ hK14 => ?_; refine c_region ?_
    by_cases o1 : x.op = 1
    ·
     refine o_step rfl (step_cast (v' := .bool true) (s_eql rfl rfl) (by rw [decide_eq_true o1])) ?_; refine o_step rfl (s_assign rfl) ?_; refine o_nil ?_; refine x_then (hK14 _ _ ?_); refine c_true rfl ?_; refine c_region ?_; refine o_step rfl (s_move rfl) ?_; refine o_step rfl (s_move rfl) ?_; refine o_step rfl (s_add rfl rfl (by omega)) ?_; refine o_step rfl (s_eql rfl rfl) ?_; refine o_step rfl (s_assign rfl) ?_; refine o_nil ?_; refine x_block ?_; exact x_then (hJ8 (decide ((j : Int) = (i : Int) + 1)) _ _ trivial sbA sbA hzB)
    ·
     refine o_step rfl (step_cast (v' := .bool false) (s_eql rfl rfl) (by rw [decide_eq_false o1])) ?_; refine o_step rfl (s_assign rfl) ?_; refine o_nil ?_; refine x_then (hK14 _ _ ?_); refine c_false rfl ?_; refine c_seq fun _ hK15 => ?_; refine c_region ?_
     by_cases o2 : x.op = 2
     ·
      refine o_step rfl (step_cast (v' := .bool true) (s_eql rfl rfl) (by rw [decide_eq_true o2])) ?_; refine o_step rfl (s_assign rfl) ?_; refine o_nil ?_; refine x_then (hK15 _ _ ?_); refine c_true rfl ?_; refine c_region ?_; refine o_step rfl (s_move rfl) ?_
      by_cases hi0 : (i : Int) = 0
      ·
       refine o_step rfl (step_cast (v' := .bool true) (s_eql rfl rfl) (by rw [decide_eq_true (by omega)])) ?_; refine o_step rfl (s_move rfl) ?_; refine o_yes rfl rfl ?_; refine o_step rfl (s_move rfl) ?_; refine o_yes rfl rfl ?_; refine o_step rfl (s_eql rfl rfl) ?_; refine o_step rfl (s_pick_t rfl rfl) ?_; refine o_step rfl (s_assign rfl) ?_; refine o_nil ?_; refine x_block ?_; exact x_then (hJ8 (decide ((j : Int) = 0)) _ _ trivial sbA sbA hzB)
      ·
       refine o_step rfl (step_cast (v' := .bool false) (s_eql rfl rfl) (by rw [decide_eq_false (by omega)])) ?_; refine o_step rfl (s_move rfl) ?_; refine o_no rfl rfl rfl rfl ?_; refine o_no rfl rfl rfl rfl ?_; refine o_step rfl (s_pick_f rfl rfl) ?_; refine o_step rfl (s_assign rfl) ?_; refine o_nil ?_; refine x_block ?_; exact x_then (hJ8 false _ _ trivial sbA sbA hzB)
     ·
      refine o_step rfl (step_cast (v' := .bool false) (s_eql rfl rfl) (by rw [decide_eq_false o2])) ?_; refine o_step rfl (s_assign rfl) ?_; refine o_nil ?_; refine x_then (hK15 _ _ ?_); refine c_false rfl ?_; refine c_seq fun _ hK16 => ?_; refine c_region ?_
      by_cases o3 : x.op = 3
      ·
       refine o_step rfl (step_cast (v' := .bool true) (s_eql rfl rfl) (by rw [decide_eq_true o3])) ?_; refine o_step rfl (s_assign rfl) ?_; refine o_nil ?_; refine x_then (hK16 _ _ ?_); refine c_true rfl ?_; refine c_region ?_; refine o_step rfl (s_move rfl) ?_; refine o_step rfl (s_move rfl) ?_; refine o_step rfl (s_nil rfl) ?_; refine o_step rfl (s_field rfl rfl (by decide)) ?_; refine o_step rfl (s_ld rfl (.own meA rfl)) ?_
       by_cases hin : (i : Int) = (K.n : Nat)
       ·
        refine o_step rfl (step_cast (v' := .bool true) (s_eql rfl rfl) (by rw [decide_eq_true (by omega)])) ?_; refine o_step rfl (s_move rfl) ?_; refine o_yes rfl rfl ?_; refine o_step rfl (s_move rfl) ?_; refine o_yes rfl rfl ?_; refine o_step rfl (s_move rfl) ?_; refine o_yes rfl rfl ?_; refine o_step rfl (s_nil rfl) ?_; refine o_yes rfl rfl ?_; refine o_step rfl (s_field rfl rfl (by decide)) ?_; refine o_yes rfl rfl ?_; refine o_step rfl (s_ld rfl (.own meA rfl)) ?_; refine o_yes rfl rfl ?_; refine o_step rfl (s_eql rfl rfl) ?_; refine o_step rfl (s_pick_t rfl rfl) ?_; refine o_step rfl (s_assign rfl) ?_; refine o_nil ?_; refine x_block ?_; exact x_then (hJ8 (decide ((j : Int) = (K.n : Nat))) _ _ trivial sbA sbA hzB)
       ·
        refine o_step rfl (step_cast (v' := .bool false) (s_eql rfl rfl) (by rw [decide_eq_false (by omega)])) ?_; refine o_step rfl (s_move rfl) ?_; refine o_no rfl rfl rfl rfl ?_; refine o_no rfl rfl rfl rfl ?_; refine o_no rfl rfl rfl rfl ?_; refine o_no rfl rfl rfl rfl ?_; refine o_no rfl rfl rfl rfl ?_; refine o_no rfl rfl rfl rfl ?_; refine o_step rfl (s_pick_f rfl rfl) ?_; refine o_step rfl (s_assign rfl) ?_; refine o_nil ?_; refine x_block ?_; exact x_then (hJ8 false _ _ trivial sbA sbA hzB)
      ·
       refine o_step rfl (step_cast (v' := .bool false) (s_eql rfl rfl) (by rw [decide_eq_false o3])) ?_; refine o_step rfl (s_assign rfl) ?_; refine o_nil ?_; refine x_then (hK16 _ _ ?_); refine c_false rfl ?_; refine c_seq fun _ hK17 => ?_; refine c_region ?_
       by_cases o8 : x.op = 8
       ·
        have hrf := hK.ref x hxm o8
        obtain ⟨s, hsp⟩ : ∃ s, c.xs[(x.n - 1).toNat]? = some s := ⟨_, List.getElem?_eq_getElem (by omega)⟩
        have hcs := hc.2.1
        refine o_step rfl (step_cast (v' := .bool true) (s_eql rfl rfl) (by rw [decide_eq_true o8])) ?_; refine o_step rfl (s_assign rfl) ?_; refine o_nil ?_; refine x_then (hK17 _ _ ?_); refine c_true rfl ?_; refine c_seq fun _ hK18 => ?_; refine c_region ?_; refine o_step rfl (s_move rfl) ?_; refine o_step rfl (s_field rfl rfl (by decide)) ?_; refine o_step rfl (s_ld rfl (.own meA rfl)) ?_; refine o_step rfl (s_sub rfl rfl (by omega)) ?_; refine o_step rfl (s_idx rfl rfl hcs (by omega)) ?_; refine o_step rfl (s_ldB rfl ((hc.2.2.rdk hiA).lds (x.n - 1).toNat hsp rfl) (by rfl)) ?_; refine o_alloc (l := Esp ⟨0, 0⟩) rfl rfl fun b13 => ?_; refine o_stW rfl rfl upA lnA lnA onA ?_; refine o_nil ?_; refine x_then (hK18 _ _ ?_); refine c_region ?_; refine o_step rfl (s_field rfl rfl (by decide)) ?_; refine o_step rfl (s_ld rfl (.own meA rfl)) ?_
        by_cases hsf : s.fr ≥ 0
        ·
         refine o_step rfl (step_cast (v' := .bool true) (s_geq rfl rfl) (by rw [decide_eq_true (by omega)])) ?_; refine o_step rfl (s_move rfl) ?_; refine o_yes rfl rfl ?_; refine o_step rfl (s_field rfl rfl (by decide)) ?_; refine o_yes rfl rfl ?_; refine o_step rfl (s_ld rfl (.own meA rfl)) ?_; refine o_yes rfl rfl ?_; refine o_step rfl (s_field rfl rfl (by decide)) ?_; refine o_yes rfl rfl ?_; refine o_step rfl (s_ld rfl (.own meA rfl)) ?_; refine o_yes rfl rfl ?_; refine o_step rfl (s_subw rfl rfl) ?_; refine o_yes rfl rfl ?_; refine o_step rfl (s_move rfl) ?_; refine o_yes rfl rfl ?_; refine o_step rfl (s_move rfl) ?_; refine o_yes rfl rfl ?_; refine o_step rfl (s_sub rfl rfl (by omega)) ?_; refine o_yes rfl rfl ?_; refine o_step rfl (s_eql rfl rfl) ?_; refine o_step rfl (s_pick_t rfl rfl) ?_; refine o_step rfl (s_assign rfl) ?_; refine o_nil ?_; refine x_block ?_; exact x_then (hJ8 (decide (IntKind.wrap .i64 (s.to - s.fr) = (j : Int) - (i : Int))) _ _ trivial sbA sbA hzB)
        ·
         refine o_step rfl (step_cast (v' := .bool false) (s_geq rfl rfl) (by rw [decide_eq_false (by omega)])) ?_; refine o_step rfl (s_move rfl) ?_; refine o_no rfl rfl rfl rfl ?_; refine o_no rfl rfl rfl rfl ?_; refine o_no rfl rfl rfl rfl ?_; refine o_no rfl rfl rfl rfl ?_; refine o_no rfl rfl rfl rfl ?_; refine o_no rfl rfl rfl rfl ?_; refine o_no rfl rfl rfl rfl ?_; refine o_no rfl rfl rfl rfl ?_; refine o_no rfl rfl rfl rfl ?_; refine o_step rfl (s_pick_f rfl rfl) ?_; refine o_step rfl (s_assign rfl) ?_; refine o_nil ?_; refine x_block ?_; exact x_then (hJ8 false _ _ trivial sbA sbA hzB)
       ·
        refine o_step rfl (step_cast (v' := .bool false) (s_eql rfl rfl) (by rw [decide_eq_false o8])) ?_; refine o_step rfl (s_assign rfl) ?_; refine o_nil ?_; refine x_then (hK17 _ _ ?_); refine c_false rfl ?_; refine c_seq fun _ hK19 => ?_; refine c_region ?_
        by_cases o4 : x.op = 4
        ·
         refine o_step rfl (step_cast (v' := .bool true) (s_eql rfl rfl) (by rw [decide_eq_true o4])) ?_; refine o_step rfl (s_assign rfl) ?_; refine o_nil ?_; refine x_then (hK19 _ _ ?_); refine c_true rfl ?_; refine c_seq fun _ hK20 => ?_; refine c_region ?_; refine o_step rfl (s_move rfl) ?_; refine o_step rfl (s_move rfl) ?_; refine o_step rfl (s_add rfl rfl (by omega)) ?_; refine o_step rfl (s_field rfl rfl (by decide)) ?_; refine o_step rfl (step_cast (v' := .int .i64 (ks.num : Nat)) (s_ld rfl (.own meA rfl)) (by rw [hkn0])) ?_; refine o_step rfl (s_move rfl) ?_; refine o_step rfl (s_move rfl) ?_; refine o_step rfl (s_move rfl) ?_; refine o_call (hR ks (at_ + 1) _ hpk i j hij hjn c Pool hc (left - 1) (by omega) (by omega) (by omega)) rfl rfl rfl ((Pick.takeC pkA pkA)) (fun _ st => ⟨(RdK.old hw.d1 hw.a1).out _ st, St.apart_M st (by exact hiB) hw.d1 hw.a1 (by decide), (RdK.old hw.d2 hw.a2).out _ st, St.apart_M st (by exact hiB) hw.d2 hw.a2 (by decide)⟩) (fun v105 S105 ⟨a105, c105, zs105, Sz105, New105, lf105, hv105, hS105, hO105, hP105, hk105, hl105, hb105⟩ => ?_)
         subst hv105; subst hS105
         refine o_step rfl (s_assign rfl) ?_; refine o_nil ?_; refine x_then (hK20 _ _ ?_); refine c_ret ?_; refine x_block_ret (x_then_ret (?_))
         refine x_sub (Sub.refl _) (H' := (K.bT, .cells [.slice K.ra K.re.length K.rc, .int .i64 (K.n : Nat), .slice K.ha K.hl.length K.hc, .int .i64 lf105].toArray 255 (0, 0)) :: (Sz105 ++ (New105 ++ Pool))) hzB ?_; exact x_ret rfl (.tmp rfl (.nil)) (⟨a105, c105, zs105, Sz105, New105, lf105, rfl, rfl, hO105, hP105, by omega, by omega, hb105⟩)
        ·
         refine o_step rfl (step_cast (v' := .bool false) (s_eql rfl rfl) (by rw [decide_eq_false o4])) ?_; refine o_step rfl (s_assign rfl) ?_; refine o_nil ?_; refine x_then (hK19 _ _ ?_); refine c_false rfl ?_; refine c_seq fun _ hK21 => ?_; refine c_region ?_
         by_cases o5 : x.op = 5
         ·
          refine o_step rfl (step_cast (v' := .bool true) (s_eql rfl rfl) (by rw [decide_eq_true o5])) ?_; refine o_step rfl (s_assign rfl) ?_; refine o_nil ?_; refine x_then (hK21 _ _ ?_); refine c_true rfl ?_; refine c_seq fun _ hK22 => ?_; refine c_region ?_; refine o_step rfl (s_assign rfl) ?_; refine o_nil ?_; refine x_then (hK22 _ _ ?_); refine c_seq fun _ hK23 => ?_; refine c_region ?_; refine o_step rfl (s_move rfl) ?_; refine o_step rfl (s_add rfl rfl (by omega)) ?_; refine o_step rfl (s_assign rfl) ?_; refine o_nil ?_; refine x_then (hK23 _ _ ?_); refine c_seq fun _ hK24 => ?_; refine c_seq fun _ hK25 => ?_; refine c_region ?_; refine o_step rfl (s_assign rfl) ?_; refine o_nil ?_; refine x_then (hK25 _ _ ?_); refine c_block ?_; refine c_loop9 (fun (k : Nat) (kp : Nat) (g : F) (ao : Option Addr) (co : Nat) (os : List (Sl Sp)) (So : Hp) (New : Hp) (lf : Int) => Part K.re g kp (at_ + 1 + ks.size) ∧ k + g.num = ks.num ∧ OwnS Esl 1 31 (.slice ao os.length co) os So ∧ PoolR os K.N (New ++ Pool) ∧ (os.length : Int) + lf ≤ left - 1 ∧ lf ≤ left - 1 ∧ -700000 ≤ lf) (fun (k : Nat) (kp : Nat) (g : F) (ao : Option Addr) (co : Nat) (os : List (Sl Sp)) (So : Hp) (New : Hp) (lf : Int) => [(16, .int .i64 k), (15, .int .i64 kp), (14, .slice ao os.length co)]) [(0, _), (2, _), (3, _), (4, _), (10, _), (11, _), (12, _)] (fun (k : Nat) (kp : Nat) (g : F) (ao : Option Addr) (co : Nat) (os : List (Sl Sp)) (So : Hp) (New : Hp) (lf : Int) => (b11, .cells (En x).toArray 108 (0, 0)) :: (K.bT, .cells [.slice K.ra K.re.length K.rc, .int .i64 (K.n : Nat), .slice K.ha K.hl.length K.hc, .int .i64 lf].toArray 255 (0, 0)) :: (So ++ (New ++ Pool))) (fun (k : Nat) (kp : Nat) (g : F) (ao : Option Addr) (co : Nat) (os : List (Sl Sp)) (So : Hp) (New : Hp) (lf : Int) => g.size) 0 (at_ + 1) ks none 0 [] [] [] (left - 1) ⟨hpk, by simp, .nil, fun s hs => (by cases hs), by simp, Int.le_refl _, by omega⟩ sbA sbA hzB ?_
          rintro k kp g ao co os So New lf ⟨hpg, hkn, hO, hPo, hko, hlf, hlo⟩
          refine c_seq fun _ hK26 => ?_; refine c_seq fun _ hK27 => ?_; refine c_region ?_; refine o_step rfl (s_move rfl) ?_; refine o_step rfl (s_field rfl rfl (by decide)) ?_; refine o_step rfl (s_ld rfl (.own meA rfl)) ?_
          by_cases hkk : (k : Int) < x.kids
          ·
           obtain ⟨y, js, r, rfl⟩ : ∃ y js r, g = F.nd y js r := by cases g with | nil => simp [F.num] at hkn; omega | nd y a b => exact ⟨y, a, b, rfl⟩
           obtain ⟨hy, hpy, hpr⟩ := hpg.head
           have hby2 := hK.beh _ _ _ _ _ hpg
           have hp1 := hpg.one
           have hbl2 := (List.getElem?_eq_some_iff.1 hby2).1
           have hgl := hpg.le
           have hgn := hpg.len
           refine o_step rfl (step_cast (v' := .bool true) (s_lss rfl rfl) (by rw [decide_eq_true (by omega)])) ?_; refine o_step rfl (s_move rfl) ?_; refine o_yes rfl rfl ?_; refine o_step rfl (s_move rfl) ?_; refine o_yes rfl rfl ?_; refine o_step rfl (s_nil rfl) ?_; refine o_yes rfl rfl ?_; refine o_step rfl (s_field rfl rfl (by decide)) ?_; refine o_yes rfl rfl ?_; refine o_step rfl (s_ld rfl (.own meA rfl)) ?_; refine o_yes rfl rfl ?_
           by_cases hlf0 : lf ≥ 0
           ·
            refine o_step rfl (step_cast (v' := .bool true) (s_geq rfl rfl) (by rw [decide_eq_true (by omega)])) ?_; refine o_step rfl (s_pick_t rfl rfl) ?_; refine o_nil ?_; refine x_then (hK27 _ _ ?_); refine c_true rfl ?_; refine c_skip ?_; refine x_then (hK26 _ _ ?_); refine c_seq fun _ hK28 => ?_; refine c_block ?_; refine c_seq fun _ hK29 => ?_; refine c_region ?_; refine o_step rfl (s_move rfl) ?_; refine o_step rfl (s_move rfl) ?_; refine o_step rfl (s_move rfl) ?_; refine o_step rfl (s_move rfl) ?_; refine o_step rfl (s_move rfl) ?_; refine o_step rfl (s_move rfl) ?_; refine o_step rfl (s_move rfl) ?_; refine o_call (hN y js kp _ hp1 i j hij hjn c (New ++ Pool) (hc.mono hiA) lf (by omega) (by omega) (by omega)) rfl rfl rfl ((Pick.takeC pkA pkA)) (fun _ st => ⟨(RdK.old hw.d1 hw.a1).out _ st, St.apart_M st (by exact hiB) hw.d1 hw.a1 (by decide), (RdK.old hw.d2 hw.a2).out _ st, St.apart_M st (by exact hiB) hw.d2 hw.a2 (by decide)⟩) (fun v130 S130 ⟨a130, c130, zs130, Sz130, New130, lf130, hv130, hS130, hO130, hP130, hk130, hl130, hb130⟩ => ?_)
            subst hv130; subst hS130
            refine o_call (tAll_fn K.bT K.ra K.rc K.re K.n K.ha K.hc K.hl lf130 ao co os So hO a130 c130 zs130 Sz130 (New130 ++ (New ++ Pool)) hO130 K.N (hPo.mono hiB) hP130 hNl (by omega) hb130 (by omega) (by omega)) rfl rfl rfl ((Pick.takeC pkA (Pick.takeA pkA pkA))) (fun _ _ => trivial) (fun v131 S131 ⟨a131, c131, zs131, SL131, lf131, hv131, hS131, hO131, hP131, hk131, hl131, hb131⟩ => ?_); subst hv131
            subst hS131; refine o_step rfl (s_assign rfl) ?_; refine o_nil ?_; refine x_then (hK29 _ _ ?_); refine c_region ?_; refine o_step rfl (s_move rfl) ?_; refine o_step rfl (s_nil rfl) ?_; refine o_step rfl (s_field rfl rfl (by decide)) ?_; refine o_step rfl (s_ld rfl (.own meA rfl)) ?_; refine o_step rfl (s_move rfl) ?_; refine o_step rfl (s_idx rfl rfl hhs (by omega)) ?_; refine o_step rfl (s_ld rfl ((RdK.old hw.d2 hw.a2).ld kp 0 hby2 rfl (by decide) (by omega))) ?_; refine o_step rfl (s_assign rfl) ?_; refine o_nil ?_; refine x_block ?_; refine x_then (hK28 _ _ ?_); refine c_region ?_; refine o_step rfl (s_move rfl) ?_; refine o_step rfl (s_add rfl rfl (by omega)) ?_; refine o_step rfl (s_assign rfl) ?_; refine o_nil ?_; exact x_then (x_inv (k + 1, (kp + 1 + js.size), r, a131, c131, zs131, SL131, New130 ++ New, lf131) ⟨hpr, by simp only [F.num] at hkn; dsimp only; omega, hO131, by rw [List.append_assoc]; exact hP131, by dsimp only; omega, by dsimp only; omega, hb131⟩ (by simp only [F.size]; omega) sbA (by simp only [List.append_assoc]; exact hzB))
           ·
            refine o_step rfl (step_cast (v' := .bool false) (s_geq rfl rfl) (by rw [decide_eq_false (by omega)])) ?_; refine o_step rfl (s_pick_t rfl rfl) ?_; refine o_nil ?_; refine x_then (hK27 _ _ ?_); refine c_false rfl ?_; refine c_exit ?_; refine x_then_exit ?_; refine x_then_exit ?_; refine x_block_exit ?_; refine x_then (hK24 _ _ ?_); refine c_seq fun _ hK30 => ?_; refine c_region ?_; refine o_step rfl (s_move rfl) ?_; refine o_step rfl (s_assign rfl) ?_; refine o_nil ?_; refine x_then (hK30 _ _ ?_); refine c_ret ?_; refine x_block_ret (x_then_ret (?_))
            refine x_sub (Sub.refl _) (H' := (K.bT, .cells [.slice K.ra K.re.length K.rc, .int .i64 (K.n : Nat), .slice K.ha K.hl.length K.hc, .int .i64 lf].toArray 255 (0, 0)) :: (So ++ (New ++ Pool))) hzB ?_; exact x_ret rfl (.tmp rfl (.nil)) (⟨ao, co, os, So, New, lf, rfl, rfl, hO, hPo, by omega, by omega, hlo⟩)
          ·
           refine o_step rfl (step_cast (v' := .bool false) (s_lss rfl rfl) (by rw [decide_eq_false (by omega)])) ?_; refine o_step rfl (s_move rfl) ?_; refine o_no rfl rfl rfl rfl ?_; refine o_no rfl rfl rfl rfl ?_; refine o_no rfl rfl rfl rfl ?_; refine o_no rfl rfl rfl rfl ?_; refine o_no rfl rfl rfl rfl ?_; refine o_step rfl (s_pick_f rfl rfl) ?_; refine o_nil ?_; refine x_then (hK27 _ _ ?_); refine c_false rfl ?_; refine c_exit ?_; refine x_then_exit ?_; refine x_then_exit ?_; refine x_block_exit ?_; refine x_then (hK24 _ _ ?_); refine c_seq fun _ hK31 => ?_; refine c_region ?_; refine o_step rfl (s_move rfl) ?_; refine o_step rfl (s_assign rfl) ?_; refine o_nil ?_; refine x_then (hK31 _ _ ?_); refine c_ret ?_; refine x_block_ret (x_then_ret (?_))
           refine x_sub (Sub.refl _) (H' := (K.bT, .cells [.slice K.ra K.re.length K.rc, .int .i64 (K.n : Nat), .slice K.ha K.hl.length K.hc, .int .i64 lf].toArray 255 (0, 0)) :: (So ++ (New ++ Pool))) hzB ?_; exact x_ret rfl (.tmp rfl (.nil)) (⟨ao, co, os, So, New, lf, rfl, rfl, hO, hPo, by omega, by omega, hlo⟩)
         ·
          refine o_step rfl (step_cast (v' := .bool false) (s_eql rfl rfl) (by rw [decide_eq_false o5])) ?_; refine o_step rfl (s_assign rfl) ?_; refine o_nil ?_; refine x_then (hK21 _ _ ?_); refine c_false rfl ?_; refine c_seq fun _ hK32 => ?_; refine c_region ?_
          by_cases o6 : x.op = 6
          ·
           obtain ⟨y, js, rfl⟩ := one_kid hp.wf (.inl o6)
           refine o_step rfl (step_cast (v' := .bool true) (s_eql rfl rfl) (by rw [decide_eq_true o6])) ?_; refine o_step rfl (s_assign rfl) ?_; refine o_nil ?_; refine x_then (hK32 _ _ ?_); refine c_true rfl ?_; refine c_seq fun _ hK33 => ?_; refine c_region ?_; refine o_step rfl (s_move rfl) ?_; refine o_step rfl (s_move rfl) ?_; refine o_step rfl (s_move rfl) ?_; refine o_step rfl (s_move rfl) ?_; refine o_step rfl (s_move rfl) ?_; refine o_call (hRo x y js at_ i1 o6 hp 0 (by omega) i j hij hjn c Pool hc (left - 1) (by omega) (by omega) (by omega) (by omega)) rfl rfl rfl ((Pick.takeC pkA pkA)) (fun _ st => ⟨(RdK.old hw.d1 hw.a1).out _ st, St.apart_M st (by exact hiB) hw.d1 hw.a1 (by decide), (RdK.old hw.d2 hw.a2).out _ st, St.apart_M st (by exact hiB) hw.d2 hw.a2 (by decide)⟩) (fun v147 S147 ⟨a147, c147, zs147, Sz147, New147, lf147, hv147, hS147, hO147, hP147, hk147, hl147, hb147⟩ => ?_)
           subst hv147; subst hS147
           refine o_step rfl (s_assign rfl) ?_; refine o_nil ?_; refine x_then (hK33 _ _ ?_); refine c_ret ?_; refine x_block_ret (x_then_ret (?_))
           refine x_sub (Sub.refl _) (H' := (K.bT, .cells [.slice K.ra K.re.length K.rc, .int .i64 (K.n : Nat), .slice K.ha K.hl.length K.hc, .int .i64 lf147].toArray 255 (0, 0)) :: (Sz147 ++ (New147 ++ Pool))) hzB ?_; exact x_ret rfl (.tmp rfl (.nil)) (⟨a147, c147, zs147, Sz147, New147, lf147, rfl, rfl, hO147, hP147, by omega, by omega, hb147⟩)
          ·
           refine o_step rfl (step_cast (v' := .bool false) (s_eql rfl rfl) (by rw [decide_eq_false o6])) ?_; refine o_step rfl (s_assign rfl) ?_; refine o_nil ?_; refine x_then (hK32 _ _ ?_); refine c_false rfl ?_; refine c_seq fun _ hK34 => ?_; refine c_region ?_
           by_cases o7 : x.op = 7
           ·
            obtain ⟨y, js, rfl⟩ := one_kid hp.wf (.inr o7)
            have hp1 := hpk.one
            have hgr := hK.grp x hxm o7
            refine o_step rfl (step_cast (v' := .bool true) (s_eql rfl rfl) (by rw [decide_eq_true o7])) ?_; refine o_step rfl (s_assign rfl) ?_; refine o_nil ?_; refine x_then (hK34 _ _ ?_); refine c_true rfl ?_; refine c_seq fun _ hK35 => ?_; refine c_region ?_; refine o_step rfl (s_move rfl) ?_; refine o_step rfl (s_move rfl) ?_; refine o_step rfl (s_add rfl rfl (by omega)) ?_; refine o_step rfl (s_move rfl) ?_; refine o_step rfl (s_move rfl) ?_; refine o_step rfl (s_move rfl) ?_; refine o_step rfl (s_move rfl) ?_; refine o_step rfl (s_move rfl) ?_; refine o_step rfl (s_add rfl rfl (by omega)) ?_; refine o_step rfl (s_move rfl) ?_; refine o_step rfl (s_nil rfl) ?_; refine o_step rfl (s_field rfl rfl (by decide)) ?_; refine o_step rfl (s_ld rfl (.own meA rfl)) ?_; refine o_step rfl (s_move rfl) ?_; refine o_step rfl (s_idx rfl rfl hhs (by omega)) ?_; refine o_step rfl (s_ld rfl ((RdK.old hw.d2 hw.a2).ld at_ 0 hby rfl (by decide) (by omega))) ?_
            refine o_call (tEmptied_fn K.bT _ K.ra K.rc K.re hK.rng hrl K.N hNl hK.grp c.a c.c c.xs hc.1 (at_ + 1) (at_ + 1 + (F.nd y js .nil).size) hbz) rfl rfl rfl (by exact .nil) (fun _ st => ⟨(RdPK.own meA).out _ st, (RdK.old hw.d1 hw.a1).out _ st, (hc.2.2.rdk hiA).out _ st⟩) (fun v166 S166 ⟨a166, c166, xs166, hv166, hx166, hO166⟩ => ?_); subst hv166
            rw [← hx166] at hO166
            rw [← hx166]
            refine o_call (hN y js (at_ + 1) _ hp1 i j hij hjn ⟨a166, c166, xs166⟩ (S166 ++ Pool) ⟨hx166, hO166.sl, hO166.rds.mono hiA⟩ (left - 1) (by omega) (by omega) (by omega)) rfl rfl rfl ((Pick.takeC pkA (Pick.takeA pkA pkA))) (fun _ st => ⟨(RdK.old hw.d1 hw.a1).out _ st, St.apart_M st (by exact hiB) hw.d1 hw.a1 (by decide), (RdK.old hw.d2 hw.a2).out _ st, St.apart_M st (by exact hiB) hw.d2 hw.a2 (by decide)⟩) (fun v167 S167 ⟨a167, c167, zs167, Sz167, New167, lf167, hv167, hS167, hO167, hP167, hk167, hl167, hb167⟩ => ?_); subst hv167
            subst hS167; refine o_step rfl (s_assign rfl) ?_; refine o_nil ?_; refine x_then (hK35 _ _ ?_); refine c_seq fun _ hK36 => ?_; refine c_region ?_; refine o_step rfl (s_assign rfl) ?_; refine o_nil ?_; refine x_then (hK36 _ _ ?_); refine c_seq fun _ hK37 => ?_; refine c_seq fun _ hK38 => ?_; refine c_region ?_; refine o_step rfl (s_assign rfl) ?_; refine o_nil ?_; refine x_then (hK38 _ _ ?_); refine c_block ?_; refine c_loop7 (fun (k : Nat) (ao : Option Addr) (co : Nat) (os : List (Sl Sp)) (So : Hp) (New : Hp) (lf : Int) => k ≤ zs167.length ∧ OwnS Esl 1 31 (.slice ao os.length co) os So ∧ PoolR os K.N (New ++ Pool) ∧ (os.length : Int) + lf ≤ left - 1 ∧ lf ≤ left - 1 ∧ -700000 ≤ lf ∧ PoolR zs167 K.N (New ++ Pool)) (fun (k : Nat) (ao : Option Addr) (co : Nat) (os : List (Sl Sp)) (So : Hp) (New : Hp) (lf : Int) => [(19, .int .i64 k), (18, .slice ao os.length co)]) [(0, _), (2, _), (3, _), (4, _), (10, _), (11, _), (12, _), (17, _)] (fun (k : Nat) (ao : Option Addr) (co : Nat) (os : List (Sl Sp)) (So : Hp) (New : Hp) (lf : Int) => (b11, .cells (En x).toArray 108 (0, 0)) :: (K.bT, .cells [.slice K.ra K.re.length K.rc, .int .i64 (K.n : Nat), .slice K.ha K.hl.length K.hc, .int .i64 lf].toArray 255 (0, 0)) :: (So ++ (Sz167 ++ (New ++ Pool)))) (fun (k : Nat) (ao : Option Addr) (co : Nat) (os : List (Sl Sp)) (So : Hp) (New : Hp) (lf : Int) => zs167.length - k) 0 none 0 [] [] (New167 ++ S166) lf167 ⟨Nat.zero_le _, .nil, fun s hs => (by cases hs), by simp; omega, by omega, hb167, by rw [List.append_assoc]; exact hP167⟩ sbA sbA (by simp only [List.append_assoc]; exact hzB) ?_
            rintro k ao co os So New lf ⟨hk, hO, hPo, hko, hlf, hlo, hPz⟩
            refine c_seq fun _ hK39 => ?_; refine c_seq fun _ hK40 => ?_; refine c_region ?_; refine o_step rfl (s_move rfl) ?_; refine o_step rfl (s_move rfl) ?_; refine o_step rfl (s_len rfl) ?_
            by_cases hkl : (k : Int) < zs167.length
            ·
             obtain ⟨z, hzk⟩ : ∃ z, zs167[k]? = some z := ⟨_, List.getElem?_eq_getElem (by omega)⟩
             have hzp := hPz z (List.mem_of_getElem? hzk)
             have hzN := hzp.1
             have hzs := hzp.2.1
             refine o_step rfl (step_cast (v' := .bool true) (s_lss rfl rfl) (by rw [decide_eq_true (by omega)])) ?_; refine o_step rfl (s_move rfl) ?_; refine o_yes rfl rfl ?_; refine o_step rfl (s_move rfl) ?_; refine o_yes rfl rfl ?_; refine o_step rfl (s_nil rfl) ?_; refine o_yes rfl rfl ?_; refine o_step rfl (s_field rfl rfl (by decide)) ?_; refine o_yes rfl rfl ?_; refine o_step rfl (s_ld rfl (.own meA rfl)) ?_; refine o_yes rfl rfl ?_
             by_cases hlf1 : lf ≥ 0
             ·
              refine o_step rfl (step_cast (v' := .bool true) (s_geq rfl rfl) (by rw [decide_eq_true (by omega)])) ?_; refine o_step rfl (s_pick_t rfl rfl) ?_; refine o_nil ?_; refine x_then (hK40 _ _ ?_); refine c_true rfl ?_; refine c_skip ?_; refine x_then (hK39 _ _ ?_); refine c_seq fun _ hK41 => ?_; refine c_block ?_; refine c_seq fun _ hK42 => ?_; refine c_region ?_; refine o_step rfl (s_assign rfl) ?_; refine o_nil ?_; refine x_then (hK42 _ _ ?_); refine c_seq fun _ hK43 => ?_; refine c_region ?_; refine o_step rfl (s_move rfl) ?_; refine o_step rfl (s_move rfl) ?_; refine o_step rfl (s_move rfl) ?_; refine o_step rfl (s_idx rfl rfl hO167.sl (by omega)) ?_; refine o_step rfl (s_ld rfl ((hO167.rdk hiA).ld k 0 hzk rfl (by decide) (by omega))) ?_; refine o_app (OwnS.nil : OwnS Esp 2 40 (.slice none 0 0) [] []) (hzp.2.2.rdk hiA) rfl rfl rfl rfl (by simp; omega) (by simp; omega) rfl (by exact .nil) fun a186 c186 S186 hS186 => ?_
              rw [List.nil_append] at hS186
              rw [List.nil_append]
              refine o_step rfl (s_assign rfl) ?_; refine o_nil ?_; refine x_then (hK43 _ _ ?_); refine c_seq fun _ hK44 => ?_; refine c_region ?_; refine o_step rfl (s_move rfl) ?_; refine o_step rfl (s_field rfl rfl (by decide)) ?_; refine o_step rfl (s_ld rfl (.own meA rfl)) ?_; refine o_step rfl (s_sub rfl rfl (by omega)) ?_; refine o_step rfl (s_move rfl) ?_; refine o_step rfl (s_move rfl) ?_; refine o_step rfl (s_build (cs := [_, _]) (vs := [_, _]) rfl rfl (.cons rfl rfl rfl rfl rfl (.cons rfl rfl rfl rfl rfl (.nil)))) ?_; refine o_step rfl (s_idx rfl rfl hS186.sl (by omega)) ?_; refine o_stSE (x.n - 1).toNat ⟨i, j⟩ hS186 pkA rfl rfl (by omega) (by rfl) fun S' hS' => ?_
              have hrow : RowP K.N S' ⟨a186, c186, z.xs.set (x.n - 1).toNat ⟨i, j⟩⟩ := ⟨by rw [List.length_set]; exact hzN, by have h := hS'.sl; simpa [Sl.v] using h, by have h := hS'.rds; simpa [Sl.v] using h⟩
              refine o_nil ?_; refine x_then (hK44 _ _ ?_); refine c_region ?_; refine o_step rfl (s_move rfl) ?_; refine o_step rfl (s_move rfl) ?_; refine o_step rfl (step_cast (v' := .slice a186 (z.xs.set (x.n - 1).toNat ⟨i, j⟩).length c186) (s_move rfl) (by rw [List.length_set])) ?_; refine o_bs (E := Esl) (xs := [(⟨a186, c186, z.xs.set (x.n - 1).toNat ⟨i, j⟩⟩ : Sl Sp)]) (vs := [_]) rfl rfl rfl rfl rfl (by decide) (by decide) fun b198 S198 hS198 => ?_; refine o_call (tAll_fn K.bT K.ra K.rc K.re K.n K.ha K.hc K.hl lf ao co os So hO _ _ [(⟨a186, c186, z.xs.set (x.n - 1).toNat ⟨i, j⟩⟩ : Sl Sp)] S198 (S' ++ (New ++ Pool)) hS198 K.N (hPo.mono hiA) (fun s hs => by rw [List.mem_singleton.1 hs]; exact hrow.mono hiA) hNl (by omega) hlo (by simp) (by omega)) rfl rfl rfl ((Pick.takeC pkA (Pick.takeA pkA (Pick.takeA pkA pkA)))) (fun _ _ => trivial) (fun v199 S199 ⟨a199, c199, zs199, SL199, lf199, hv199, hS199, hO199, hP199, hk199, hl199, hb199⟩ => ?_)
              subst hv199; subst hS199
              refine o_step rfl (s_assign rfl) ?_; refine o_nil ?_; refine x_block ?_; refine x_then (hK41 _ _ ?_); refine c_region ?_; refine o_step rfl (s_move rfl) ?_; refine o_step rfl (s_add rfl rfl (by omega)) ?_; refine o_step rfl (s_assign rfl) ?_; refine o_nil ?_; exact x_then (x_inv (k + 1, a199, c199, zs199, SL199, S' ++ New, lf199) ⟨by dsimp only; omega, hO199, by rw [List.append_assoc]; exact hP199, by dsimp only; (try simp only [List.length_singleton] at hk199); omega, by dsimp only; omega, hb199, by rw [List.append_assoc]; exact hPz.mono (HIn.app HIn.all)⟩ (by first | omega | (dsimp only; omega)) sbA (by simp only [List.append_assoc]; exact hzB))
             ·
              refine o_step rfl (step_cast (v' := .bool false) (s_geq rfl rfl) (by rw [decide_eq_false (by omega)])) ?_; refine o_step rfl (s_pick_t rfl rfl) ?_; refine o_nil ?_; refine x_then (hK40 _ _ ?_); refine c_false rfl ?_; refine c_exit ?_; refine x_then_exit ?_; refine x_then_exit ?_; refine x_block_exit ?_; refine x_then (hK37 _ _ ?_); refine c_seq fun _ hK45 => ?_; refine c_region ?_; refine o_step rfl (s_move rfl) ?_; refine o_step rfl (s_assign rfl) ?_; refine o_nil ?_; refine x_then (hK45 _ _ ?_); refine c_ret ?_; refine x_block_ret (x_then_ret (?_))
              refine x_sub (Sub.refl _) (H' := (K.bT, .cells [.slice K.ra K.re.length K.rc, .int .i64 (K.n : Nat), .slice K.ha K.hl.length K.hc, .int .i64 lf].toArray 255 (0, 0)) :: (So ++ (New ++ Pool))) hzB ?_; exact x_ret rfl (.tmp rfl (.nil)) (⟨ao, co, os, So, New, lf, rfl, rfl, hO, hPo, by omega, by omega, hlo⟩)
            ·
             refine o_step rfl (step_cast (v' := .bool false) (s_lss rfl rfl) (by rw [decide_eq_false (by omega)])) ?_; refine o_step rfl (s_move rfl) ?_; refine o_no rfl rfl rfl rfl ?_; refine o_no rfl rfl rfl rfl ?_; refine o_no rfl rfl rfl rfl ?_; refine o_no rfl rfl rfl rfl ?_; refine o_no rfl rfl rfl rfl ?_; refine o_step rfl (s_pick_f rfl rfl) ?_; refine o_nil ?_; refine x_then (hK40 _ _ ?_); refine c_false rfl ?_; refine c_exit ?_; refine x_then_exit ?_; refine x_then_exit ?_; refine x_block_exit ?_; refine x_then (hK37 _ _ ?_); refine c_seq fun _ hK46 => ?_; refine c_region ?_; refine o_step rfl (s_move rfl) ?_; refine o_step rfl (s_assign rfl) ?_; refine o_nil ?_; refine x_then (hK46 _ _ ?_); refine c_ret ?_; refine x_block_ret (x_then_ret (?_))
             refine x_sub (Sub.refl _) (H' := (K.bT, .cells [.slice K.ra K.re.length K.rc, .int .i64 (K.n : Nat), .slice K.ha K.hl.length K.hc, .int .i64 lf].toArray 255 (0, 0)) :: (So ++ (New ++ Pool))) hzB ?_; exact x_ret rfl (.tmp rfl (.nil)) (⟨ao, co, os, So, New, lf, rfl, rfl, hO, hPo, by omega, by omega, hlo⟩)
           ·
            refine o_step rfl (step_cast (v' := .bool false) (s_eql rfl rfl) (by rw [decide_eq_false o7])) ?_; refine o_step rfl (s_assign rfl) ?_; refine o_nil ?_; refine x_then (hK34 _ _ ?_); refine c_false rfl ?_; refine c_skip ?_; refine x_block ?_; exact x_then (hJ8 false _ _ trivial sbA sbA hzB)
end Go.Proofs.YtopmnmigpbdddaaGreatDoor

/- The tally ends, whatever it counts. Conditions: none. -/
namespace Go.Proofs.YtopmnmigpbdddaaGreatDoor
open Go Go.HL Go.Proofs Go.HL.Kl Go.HL.Kl.Mc Go.HL.Kl.Mc.AskE
theorem row_all (K : TalE) (hK : K.ok) (L : Nat) (hN : K.NodeT L) (f : F) : K.RowT L f := by
  obtain ⟨n, hn⟩ : ∃ n, f.size = n := ⟨_, rfl⟩
  induction n using Nat.strongRecOn generalizing f with
  | ind n ih => exact fun at_ i1 hp i j hij hjn c Pool hc left h0 hL h5 => row_stepO K hK L hN f (fun g hg => ih g.size (by omega) g rfl) at_ i1 hp i j hij hjn c Pool hc left h0 hL h5
theorem tally_all (K : TalE) (hK : K.ok) : ∀ L, K.NodeT L ∧ K.RoundsT L
  | 0 => ⟨fun _ _ _ _ _ _ _ _ _ _ _ _ left h0 hL _ => absurd hL (by omega), fun _ _ _ _ _ _ _ _ _ _ _ _ _ _ _ _ left h0 hL _ _ => absurd hL (by omega)⟩
  | L + 1 => by
    obtain ⟨hN, hRo⟩ := tally_all K hK L
    exact ⟨fun x ks at_ i1 hp i j hij hjn c Pool hc left h0 hL h5 => node_stepO K hK L hN (row_all K hK L hN) hRo x ks at_ i1 hp i j hij hjn c Pool hc left h0 (by omega) h5,
      fun x y js at_ i1 h6 hp had hhd i j hij hjn c Pool hc left h0 hL h5 hhl => rounds_stepO K hK L hN hRo x y js at_ i1 h6 hp had hhd i j hij hjn c Pool hc left h0 (by omega) h5 hhl⟩
end Go.Proofs.YtopmnmigpbdddaaGreatDoor

/- Part of the proofs over this seat: see the text that holds the theorem. Conditions: each theorem bears its own. -/
namespace Go.Proofs.YtopmnmigpbdddaaGreatDoor
open Go Go.HL Go.Proofs Go.HL.Kl Go.HL.Kl.Mc Go.HL.Kl.Mc.AskE
set_option maxHeartbeats 4000000 in
theorem looked_fn (ra : Option Addr) (rc : Nat) (re : List Nd) (hre : ∀ x ∈ re, -128 ≤ x.op ∧ x.op < 128) (n : Int) : HL.Fn Tryz.prog 138 [.slice ra re.length rc, .int .i64 n] (fun W => Rd En W (.slice ra re.length rc) re) [] (fun v _ => ∃ k : Int, v = .int .i64 k) := by
  refine fn_of Tryz.func138 rfl rfl rfl fun w0 hw => ?_
  have hsl := hw.sl
  have hbl := hsl.le
  refine c_seq fun _ hK1 => ?_; refine c_region ?_; refine o_step rfl (s_assign rfl) ?_; refine o_nil ?_; refine x_then (hK1 _ _ ?_); refine c_seq fun _ hK2 => ?_; refine c_seq fun _ hK3 => ?_; refine c_region ?_; refine o_step rfl (s_move rfl) ?_; refine o_callP (rShaped_fn ra rc re hre) rfl rfl rfl (fun _ st => (RdK.old0 hw).out _ st) (fun v15 hv15 => ?_); subst hv15
  cases hsb : shapedB re
  ·
   refine o_step rfl (s_not rfl) ?_; refine o_step rfl (s_move rfl) ?_; refine o_no rfl rfl rfl rfl ?_; refine o_no rfl rfl rfl rfl ?_; refine o_step rfl (s_pick_t rfl rfl) ?_; refine o_nil ?_; refine x_then (hK3 _ _ ?_); refine c_true rfl ?_; refine c_seq fun _ hK4 => ?_; refine c_region ?_; refine o_step rfl (s_assign rfl) ?_; refine o_nil ?_; refine x_then (hK4 _ _ ?_); refine c_ret ?_; refine x_then_ret (?_); exact x_ret rfl (.tmp rfl (.nil)) (⟨_, rfl⟩)
  ·
   obtain ⟨_, x, ks, hS⟩ := shapedB_iff.1 hsb
   have hroot : Part re (.nd x ks .nil) 0 re.length := hS.part
   have hlen := hS.len
   have hgc : gcn re ≤ re.length := List.countP_le_length
   refine o_step rfl (s_not rfl) ?_; refine o_step rfl (s_move rfl) ?_; refine o_yes rfl rfl ?_; refine o_step rfl (s_move rfl) ?_; refine o_yes rfl rfl ?_
   by_cases hn0 : n < 0
   ·
    refine o_step rfl (step_cast (v' := .bool true) (s_lss rfl rfl) (by rw [decide_eq_true (by omega)])) ?_; refine o_step rfl (s_pick_f rfl rfl) ?_; refine o_nil ?_; refine x_then (hK3 _ _ ?_); refine c_true rfl ?_; refine c_seq fun _ hK5 => ?_; refine c_region ?_; refine o_step rfl (s_assign rfl) ?_; refine o_nil ?_; refine x_then (hK5 _ _ ?_); refine c_ret ?_; refine x_then_ret (?_); exact x_ret rfl (.tmp rfl (.nil)) (⟨_, rfl⟩)
   ·
    obtain ⟨n, rfl⟩ : ∃ m : Nat, n = m := ⟨n.toNat, by omega⟩
    refine o_step rfl (step_cast (v' := .bool false) (s_lss rfl rfl) (by rw [decide_eq_false (by omega)])) ?_; refine o_step rfl (s_pick_f rfl rfl) ?_; refine o_nil ?_; refine x_then (hK3 _ _ ?_); refine c_false rfl ?_; refine c_skip ?_; refine x_then (hK2 _ _ ?_); refine c_seq fun _ hK6 => ?_; refine c_seq fun _ hK7 => ?_; refine c_region ?_; refine o_step rfl (s_move rfl) ?_
    by_cases hn60 : (n : Int) > 60
    ·
     refine o_step rfl (step_cast (v' := .bool true) (s_gtr rfl rfl) (by rw [decide_eq_true (by omega)])) ?_; refine o_nil ?_; refine x_then (hK7 _ _ ?_); refine c_true rfl ?_; refine c_seq fun _ hK8 => ?_; refine c_region ?_; refine o_step rfl (s_assign rfl) ?_; refine o_nil ?_; refine x_then (hK8 _ _ ?_); refine c_ret ?_; refine x_then_ret (?_); exact x_ret rfl (.tmp rfl (.nil)) (⟨_, rfl⟩)
    ·
     refine o_step rfl (step_cast (v' := .bool false) (s_gtr rfl rfl) (by rw [decide_eq_false (by omega)])) ?_; refine o_nil ?_; refine x_then (hK7 _ _ ?_); refine c_false rfl ?_; refine c_skip ?_; refine x_then (hK6 _ _ ?_); refine c_seq fun _ hK9 => ?_; refine c_region ?_; refine o_step rfl (s_move rfl) ?_; refine o_step rfl (s_move rfl) ?_; refine o_step rfl (step_cast (v' := .agg [.slice ra re.length rc, .int .i64 (n : Nat), .slice none 0 0, .int .i64 262144].toArray) (s_build (cs := [_, _, _, _]) (vs := [_, _, _]) rfl rfl (.cons rfl rfl rfl rfl rfl (.cons rfl rfl rfl rfl rfl (.cons rfl rfl rfl rfl rfl .nil)))) rfl) ?_; refine o_box rfl rfl rfl fun b26 => ?_; refine o_step rfl (s_assign rfl) ?_; refine o_nil ?_; refine x_then (hK9 _ _ ?_); refine c_seq fun _ hK10 => ?_; refine c_region ?_; refine o_step rfl (s_assign rfl) ?_; refine o_nil ?_; refine x_then (hK10 _ _ ?_); refine c_seq fun _ hK11 => ?_
     refine c_seq fun _ hK12 => ?_; refine c_region ?_; refine o_step rfl (s_assign rfl) ?_; refine o_nil ?_; refine x_then (hK12 _ _ ?_); refine c_block ?_; refine c_loop5 (fun (q : Nat) (ha : Option Addr) (hc : Nat) (hl : List Nat) (Sh : Hp) => q ≤ re.length ∧ BehI re hl q ∧ OwnS Eix 1 3 (.slice ha hl.length hc) hl Sh) (fun (q : Nat) (ha : Option Addr) (hc : Nat) (hl : List Nat) (Sh : Hp) => [(7, .int .i64 q), (6, .int .i64 (gcn (re.take q) : Nat))]) [(0, _), (1, _), (4, _), (5, _)] (fun (q : Nat) (ha : Option Addr) (hc : Nat) (hl : List Nat) (Sh : Hp) => (b26, .cells [.slice ra re.length rc, .int .i64 (n : Nat), .slice ha hl.length hc, .int .i64 262144].toArray 255 (0, 0)) :: Sh) (fun (q : Nat) (ha : Option Addr) (hc : Nat) (hl : List Nat) (Sh : Hp) => re.length - q) 0 none 0 [] [] ⟨Nat.zero_le _, BehI.nil, .nil⟩ sbA sbA hzB ?_
     rintro q ha hc hl Sh ⟨hql, hB, hOh⟩
     have hBl := hB.1
     refine c_seq fun _ hK13 => ?_; refine c_seq fun _ hK14 => ?_; refine c_region ?_; refine o_step rfl (s_move rfl) ?_; refine o_step rfl (s_move rfl) ?_; refine o_step rfl (s_len rfl) ?_; refine o_step rfl (s_lss rfl rfl) ?_; refine o_nil ?_; refine x_then (hK14 _ _ ?_); refine c_if rfl (fun hq => ?_) (fun hq => ?_)
     ·
      obtain ⟨y, js, r, e, hp⟩ := part_at _ _ _ hroot q (Nat.zero_le _) (by omega)
      obtain ⟨hy, _, _⟩ := hp.head
      have hgt := gcn_take hy
      have hgq : gcn (re.take q) ≤ re.length := Nat.le_trans List.countP_le_length (by rw [List.length_take]; omega)
      have hyr := hre y (List.mem_of_getElem? hy)
      have hpe := hp.le
      have hpn := hp.len
      refine c_skip ?_; refine x_then (hK13 _ _ ?_); refine c_seq fun _ hK15 => ?_; refine c_block ?_; refine c_seq fun _ hK16 => ?_; refine c_region ?_; refine o_step rfl (s_assign rfl) ?_; refine o_nil ?_; refine x_then (hK16 _ _ ?_); refine c_seq fun _ hK17 => ?_; refine c_region ?_; refine o_step rfl (s_move rfl) ?_; refine o_step rfl (s_assign rfl) ?_; refine o_nil ?_; refine x_then (hK17 _ _ ?_); refine c_seq fun _ hK18 => ?_; refine c_block ?_; refine c_loop2 (fun (h : F) (k : Nat) => Part re h k (q + 1 + js.size)) (fun (h : F) (k : Nat) => [(8, .int .i64 (h.num : Nat)), (9, .int .i64 k)]) [(0, _), (1, _), (4, _), (5, _), (6, _), (7, _), (27, _), (28, _), (29, _), (30, _), (33, _)] (fun (h : F) (k : Nat) => (b26, .cells [.slice ra re.length rc, .int .i64 (n : Nat), .slice ha hl.length hc, .int .i64 262144].toArray 255 (0, 0)) :: Sh) (fun (h : F) (k : Nat) => h.size) (F.nd y js .nil) q hp.one_end sbA sbA hzB ?_
      rintro h k hph
      refine c_seq fun _ hK19 => ?_; refine c_seq fun _ hK20 => ?_; refine c_region ?_; refine o_step rfl (s_move rfl) ?_; refine o_step rfl (s_gtr rfl rfl) ?_; refine o_nil ?_; refine x_then (hK20 _ _ ?_); refine c_if rfl (fun hleft => ?_) (fun hleft => ?_)
      ·
       obtain ⟨z, a, b, rfl⟩ : ∃ z a b, h = F.nd z a b := by cases h with | nil => exact absurd hleft (by simp [F.num]) | nd z a b => exact ⟨z, a, b, rfl⟩
       obtain ⟨hz, hpa, hpb⟩ := hph.head
       have hzw : (a.num : Int) = z.kids := hph.wf.2.1
       have hhl := hph.le
       have hhn := hph.len
       have hnn := F.num_le a
       have hnb := F.num_le b
       simp only [F.size] at hhn
       have hnm : (F.nd z a b).num = b.num + 1 := rfl
       refine c_skip ?_; refine x_then (hK19 _ _ ?_); refine c_block ?_; refine c_seq fun _ hK21 => ?_; refine c_region ?_; refine o_step rfl (s_move rfl) ?_; refine o_step rfl (s_sub rfl rfl (by omega)) ?_; refine o_step rfl (s_move rfl) ?_; refine o_step rfl (s_move rfl) ?_; refine o_step rfl (s_idx rfl rfl hsl (by omega)) ?_; refine o_step rfl (s_field rfl rfl (by decide)) ?_; refine o_step rfl (s_ld rfl ((RdK.old0 hw).ld k 8 hz rfl (by decide) (by omega))) ?_; refine o_step rfl (step_cast (v' := .int .i64 ((a.app b).num : Nat)) (s_add rfl rfl (by omega)) (congrArg _ (by rw [F.num_app]; omega))) ?_; refine o_step rfl (s_assign rfl) ?_; refine o_nil ?_; refine x_then (hK21 _ _ ?_); refine c_region ?_; refine o_step rfl (s_move rfl) ?_; refine o_step rfl (s_add rfl rfl (by omega)) ?_; refine o_step rfl (s_assign rfl) ?_; refine o_nil ?_; refine x_block ?_; exact x_then (x_inv ((a.app b), k + 1) (hpa.app hpb) (by rw [F.size_app]; simp only [F.size]; omega) sbA hzB)
      ·
       obtain rfl := F.num_nil (f := h) (by omega)
       have hke := hph.len
       obtain rfl : k = q + 1 + js.size := by simp only [F.size] at hke; omega
       refine c_exit ?_; refine x_then_exit ?_; refine x_then_exit ?_; refine x_block_exit ?_; refine x_then (hK18 _ _ ?_); refine c_seq fun _ hK22 => ?_; refine c_region ?_; refine o_step rfl (s_move rfl) ?_; refine o_step rfl (s_move rfl) ?_; refine o_step rfl (s_nil rfl) ?_; refine o_step rfl (s_field rfl rfl (by decide)) ?_; refine o_step rfl (s_ld rfl (.own meA rfl)) ?_; refine o_step rfl (s_move rfl) ?_; refine o_bs (E := Eix) (xs := [q + 1 + js.size]) (vs := [_]) rfl rfl rfl rfl rfl (by decide) (by decide) fun b52 S52 hS52 => ?_; refine o_app hOh (hS52.rdk hiA) rfl rfl rfl rfl (by simp only [List.length_singleton]; omega) (by simp only [List.length_singleton]; omega) rfl pkA fun a53 c53 S53 hS53 => ?_; refine o_step rfl (s_nil rfl) ?_; refine o_step rfl (s_field rfl rfl (by decide)) ?_; refine o_store rfl rfl rfl upA ltA rfl ?_; refine o_nil ?_; refine x_then (hK22 _ _ ?_); refine c_seq fun _ hK23 => ?_
       refine c_region ?_; refine o_step rfl (s_move rfl) ?_; refine o_step rfl (s_move rfl) ?_; refine o_step rfl (s_idx rfl rfl hsl (by omega)) ?_; refine o_step rfl (s_field rfl rfl (by decide)) ?_; refine o_step rfl (s_ld rfl ((RdK.old0 hw).ld q 0 hy rfl (by decide) (by omega))) ?_; refine o_step rfl (s_convI rfl (by omega)) ?_
       by_cases h7 : y.op = 7
       ·
        rw [if_pos h7] at hgt
        refine o_step rfl (step_cast (v' := .bool true) (s_eql rfl rfl) (by rw [decide_eq_true h7])) ?_; refine o_nil ?_; refine x_then (hK23 _ _ ?_); refine c_true rfl ?_; refine c_region ?_; refine o_step rfl (s_move rfl) ?_; refine o_step rfl (step_cast (v' := .int .i64 (gcn (re.take (q + 1)) : Nat)) (s_add rfl rfl (by omega)) (congrArg _ (by omega))) ?_; refine o_step rfl (s_assign rfl) ?_; refine o_nil ?_; refine x_block ?_; refine x_then (hK15 _ _ ?_); refine c_region ?_; refine o_step rfl (s_move rfl) ?_; refine o_step rfl (s_add rfl rfl (by omega)) ?_; refine o_step rfl (s_assign rfl) ?_; refine o_nil ?_; exact x_then (x_inv (q + 1, a53, c53, hl ++ [q + 1 + js.size], S53) ⟨by dsimp only; omega, hB.snoc hp, hS53⟩ (by first | omega | (dsimp only; omega)) sbA hzB)
       ·
        rw [if_neg h7] at hgt
        rw [show gcn (re.take q) = gcn (re.take (q + 1)) by omega]
        refine o_step rfl (step_cast (v' := .bool false) (s_eql rfl rfl) (by rw [decide_eq_false h7])) ?_; refine o_nil ?_; refine x_then (hK23 _ _ ?_); refine c_false rfl ?_; refine c_skip ?_; refine x_block ?_; refine x_then (hK15 _ _ ?_); refine c_region ?_; refine o_step rfl (s_move rfl) ?_; refine o_step rfl (s_add rfl rfl (by omega)) ?_; refine o_step rfl (s_assign rfl) ?_; refine o_nil ?_; exact x_then (x_inv (q + 1, a53, c53, hl ++ [q + 1 + js.size], S53) ⟨by dsimp only; omega, hB.snoc hp, hS53⟩ (by first | omega | (dsimp only; omega)) sbA hzB)
     ·
      obtain rfl : q = re.length := by omega
      rw [List.take_length]
      have hK : TalE.ok (⟨b26, ra, rc, re, n, ha, hc, hl, gcn re⟩ : TalE) := ⟨hre, by dsimp only; omega, by dsimp only; omega, by dsimp only; omega, fun y hy h7 => grp_le hsb hy h7, fun y hy h8 => ref_n hsb hy h8, fun k y js r e hp => hB.2 k y js r e (by have h1 := hp.le; have h2 := hp.len; simp only [F.size] at h2; dsimp only at h1; omega) hp⟩
      refine c_exit ?_; refine x_then_exit ?_; refine x_then_exit ?_; refine x_block_exit ?_; refine x_then (hK11 _ _ ?_); refine c_seq fun _ hK24 => ?_; refine c_seq fun _ hK25 => ?_; refine c_region ?_; refine o_step rfl (s_assign rfl) ?_; refine o_nil ?_; refine x_then (hK25 _ _ ?_); refine c_block ?_; refine c_loop2 (fun (p : Nat) (lf : Int) => p ≤ n + 1 ∧ -700000 ≤ lf ∧ lf ≤ 262144) (fun (p : Nat) (lf : Int) => [(10, .int .i64 p)]) [(1, _), (4, _), (5, _), (6, _)] (fun (p : Nat) (lf : Int) => (b26, .cells [.slice ra re.length rc, .int .i64 (n : Nat), .slice ha hl.length hc, .int .i64 lf].toArray 255 (0, 0)) :: Sh) (fun (p : Nat) (lf : Int) => n + 1 - p) 0 262144 ⟨Nat.zero_le _, by decide, by decide⟩ sbA sbA hzB ?_
      rintro p lf ⟨hp1, hlo, hhi⟩
      refine c_seq fun _ hK26 => ?_; refine c_seq fun _ hK27 => ?_; refine c_region ?_; refine o_step rfl (s_move rfl) ?_; refine o_step rfl (s_move rfl) ?_; refine o_step rfl (s_leq rfl rfl) ?_; refine o_nil ?_; refine x_then (hK27 _ _ ?_); refine c_if rfl (fun hpn => ?_) (fun hpn => ?_)
      ·
       refine c_skip ?_; refine x_then (hK26 _ _ ?_); refine c_seq fun _ hK28 => ?_; refine c_block ?_; refine c_seq fun _ hK29 => ?_; refine c_region ?_; refine o_step rfl (s_move rfl) ?_; refine o_step rfl (s_assign rfl) ?_; refine o_nil ?_; refine x_then (hK29 _ _ ?_); refine c_block ?_; refine c_loop2 (fun (jz : Int) (lf : Int) => (p : Int) - 1 ≤ jz ∧ jz ≤ n ∧ -700000 ≤ lf ∧ lf ≤ 262144) (fun (jz : Int) (lf : Int) => [(11, .int .i64 jz)]) [(1, _), (4, _), (5, _), (6, _), (10, _), (65, _), (66, _), (67, _), (70, _)] (fun (jz : Int) (lf : Int) => (b26, .cells [.slice ra re.length rc, .int .i64 (n : Nat), .slice ha hl.length hc, .int .i64 lf].toArray 255 (0, 0)) :: Sh) (fun (jz : Int) (lf : Int) => (jz + 1 - p).toNat) (n : Int) lf ⟨by omega, Int.le_refl _, hlo, hhi⟩ sbA sbA hzB ?_
       rintro jz lf ⟨hj1, hj2, hlo, hhi⟩
       refine c_seq fun _ hK30 => ?_; refine c_seq fun _ hK31 => ?_; refine c_region ?_; refine o_step rfl (s_move rfl) ?_; refine o_step rfl (s_move rfl) ?_
       by_cases hjp : jz ≥ (p : Int)
       ·
        obtain ⟨j, rfl⟩ : ∃ m : Nat, jz = m := ⟨jz.toNat, by omega⟩
        refine o_step rfl (step_cast (v' := .bool true) (s_geq rfl rfl) (by rw [decide_eq_true (by omega)])) ?_; refine o_step rfl (s_move rfl) ?_; refine o_yes rfl rfl ?_; refine o_step rfl (s_move rfl) ?_; refine o_yes rfl rfl ?_; refine o_step rfl (s_nil rfl) ?_; refine o_yes rfl rfl ?_; refine o_step rfl (s_field rfl rfl (by decide)) ?_; refine o_yes rfl rfl ?_; refine o_step rfl (s_ld rfl (.own meA rfl)) ?_; refine o_yes rfl rfl ?_
        by_cases hlf0 : lf ≥ 0
        ·
         refine o_step rfl (step_cast (v' := .bool true) (s_geq rfl rfl) (by rw [decide_eq_true (by omega)])) ?_; refine o_step rfl (s_pick_t rfl rfl) ?_; refine o_nil ?_; refine x_then (hK31 _ _ ?_); refine c_true rfl ?_; refine c_skip ?_; refine x_then (hK30 _ _ ?_); refine c_seq fun _ hK32 => ?_; refine c_block ?_; refine c_seq fun _ hK33 => ?_; refine c_region ?_; refine o_step rfl (s_assign rfl) ?_; refine o_nil ?_; refine x_then (hK33 _ _ ?_); refine c_seq fun _ hK34 => ?_; refine c_seq fun _ hK35 => ?_; refine c_region ?_; refine o_step rfl (s_assign rfl) ?_; refine o_nil ?_; refine x_then (hK35 _ _ ?_); refine c_block ?_; refine c_loop5 (fun (k : Nat) (ac : Option Addr) (cc : Nat) (cs : List Sp) (Sc : Hp) => k ≤ gcn re ∧ cs.length = k ∧ OwnS Esp 2 40 (.slice ac cs.length cc) cs Sc) (fun (k : Nat) (ac : Option Addr) (cc : Nat) (cs : List Sp) (Sc : Hp) => [(13, .int .i64 k), (12, .slice ac cs.length cc)]) [(1, _), (4, _), (5, _), (6, _), (10, _), (11, _), (65, _), (66, _), (67, _), (70, _), (71, _), (72, _), (73, _), (74, _), (75, _), (76, _), (77, _), (78, _), (79, _), (80, _)] (fun (k : Nat) (ac : Option Addr) (cc : Nat) (cs : List Sp) (Sc : Hp) => (b26, .cells [.slice ra re.length rc, .int .i64 (n : Nat), .slice ha hl.length hc, .int .i64 lf].toArray 255 (0, 0)) :: (Sh ++ Sc)) (fun (k : Nat) (ac : Option Addr) (cc : Nat) (cs : List Sp) (Sc : Hp) => gcn re - k) 0 none 0 [] [] ⟨Nat.zero_le _, rfl, .nil⟩ sbA sbA hzB ?_
         rintro k ac cc cs Sc ⟨hk, hcl, hOc⟩
         refine c_seq fun _ hK36 => ?_; refine c_seq fun _ hK37 => ?_; refine c_region ?_; refine o_step rfl (s_move rfl) ?_; refine o_step rfl (s_move rfl) ?_; refine o_step rfl (s_lss rfl rfl) ?_; refine o_nil ?_; refine x_then (hK37 _ _ ?_); refine c_if rfl (fun hkN => ?_) (fun hkN => ?_)
         ·
          refine c_skip ?_; refine x_then (hK36 _ _ ?_); refine c_seq fun _ hK38 => ?_; refine c_block ?_; refine c_region ?_; refine o_step rfl (s_move rfl) ?_; refine o_step rfl (s_build (cs := [_, _]) (vs := [_, _]) rfl rfl (.cons rfl rfl rfl rfl rfl (.cons rfl rfl rfl rfl rfl (.nil)))) ?_; refine o_bs (E := Esp) (xs := [noS]) (vs := [_]) rfl rfl rfl rfl rfl (by decide) (by decide) fun b90 S90 hS90 => ?_; refine o_app hOc (hS90.rdk hiA) rfl rfl rfl rfl (by simp only [List.length_singleton]; omega) (by simp only [List.length_singleton]; omega) rfl pkA fun a91 c91 S91 hS91 => ?_; refine o_step rfl (s_assign rfl) ?_; refine o_nil ?_; refine x_block ?_; refine x_then (hK38 _ _ ?_); refine c_region ?_; refine o_step rfl (s_move rfl) ?_; refine o_step rfl (s_add rfl rfl (by omega)) ?_; refine o_step rfl (s_assign rfl) ?_; refine o_nil ?_; exact x_then (x_inv (k + 1, a91, c91, cs ++ [noS], S91) ⟨by dsimp only; omega, by simp [hcl], hS91⟩ (by first | omega | (dsimp only; omega)) sbA hzB)
         ·
          have hcN : cs.length = gcn re := by omega
          refine c_exit ?_; refine x_then_exit ?_; refine x_then_exit ?_; refine x_block_exit ?_; refine x_then (hK34 _ _ ?_); refine c_region ?_; refine o_step rfl (s_move rfl) ?_; refine o_step rfl (s_move rfl) ?_; refine o_step rfl (s_move rfl) ?_; refine o_step rfl (s_move rfl) ?_; refine o_call ((tally_all (⟨b26, ra, rc, re, n, ha, hc, hl, gcn re⟩ : TalE) hK 262145).1 x ks 0 _ hroot p j (by omega) (show j ≤ n by omega) ⟨ac, cc, cs⟩ Sc ⟨hcN, hOc.sl, hOc.rds⟩ lf (by omega) (by omega) (by omega)) rfl rfl rfl ((Pick.takeC pkA pkA)) (fun _ st => ⟨(RdK.old0 hw).out _ st, St.apart_M st (by exact hiB) hw Apart.nil (by decide), (hOh.rdk hiA).out _ st, St.apart st (Pick.takeC pkA pkA) hOh hiA⟩) (fun v96 S96 ⟨a96, c96, zs96, Sz96, New96, lf96, hv96, hS96, hO96, hP96, hk96, hl96, hb96⟩ => ?_); subst hv96
          subst hS96; refine o_nil ?_; refine x_block ?_; refine x_then (hK32 _ _ ?_); refine c_region ?_; refine o_step rfl (s_move rfl) ?_; refine o_step rfl (s_sub rfl rfl (by omega)) ?_; refine o_step rfl (s_assign rfl) ?_; refine o_nil ?_; exact x_then (x_inv ((j : Int) - 1, lf96) ⟨by dsimp only; omega, by dsimp only; omega, hb96, by dsimp only; omega⟩ (by dsimp only; omega) sbA hzB)
        ·
         refine o_step rfl (step_cast (v' := .bool false) (s_geq rfl rfl) (by rw [decide_eq_false (by omega)])) ?_; refine o_step rfl (s_pick_t rfl rfl) ?_; refine o_nil ?_; refine x_then (hK31 _ _ ?_); refine c_false rfl ?_; refine c_exit ?_; refine x_then_exit ?_; refine x_then_exit ?_; refine x_block_exit ?_; refine x_block ?_; refine x_then (hK28 _ _ ?_); refine c_region ?_; refine o_step rfl (s_move rfl) ?_; refine o_step rfl (s_add rfl rfl (by omega)) ?_; refine o_step rfl (s_assign rfl) ?_; refine o_nil ?_; exact x_then (x_inv (p + 1, lf) ⟨by dsimp only; omega, hlo, hhi⟩ (by first | omega | (dsimp only; omega)) sbA hzB)
       ·
        refine o_step rfl (step_cast (v' := .bool false) (s_geq rfl rfl) (by rw [decide_eq_false (by omega)])) ?_; refine o_step rfl (s_move rfl) ?_; refine o_no rfl rfl rfl rfl ?_; refine o_no rfl rfl rfl rfl ?_; refine o_no rfl rfl rfl rfl ?_; refine o_no rfl rfl rfl rfl ?_; refine o_no rfl rfl rfl rfl ?_; refine o_step rfl (s_pick_f rfl rfl) ?_; refine o_nil ?_; refine x_then (hK31 _ _ ?_); refine c_false rfl ?_; refine c_exit ?_; refine x_then_exit ?_; refine x_then_exit ?_; refine x_block_exit ?_; refine x_block ?_; refine x_then (hK28 _ _ ?_); refine c_region ?_; refine o_step rfl (s_move rfl) ?_; refine o_step rfl (s_add rfl rfl (by omega)) ?_; refine o_step rfl (s_assign rfl) ?_; refine o_nil ?_; exact x_then (x_inv (p + 1, lf) ⟨by dsimp only; omega, hlo, hhi⟩ (by first | omega | (dsimp only; omega)) sbA hzB)
      ·
       refine c_exit ?_; refine x_then_exit ?_; refine x_then_exit ?_; refine x_block_exit ?_; refine x_then (hK24 _ _ ?_); refine c_seq fun _ hK39 => ?_; refine c_region ?_; refine o_step rfl (s_move rfl) ?_; refine o_step rfl (s_nil rfl) ?_; refine o_step rfl (s_field rfl rfl (by decide)) ?_; refine o_step rfl (s_ld rfl (.own meA rfl)) ?_; refine o_step rfl (s_max rfl rfl) ?_; refine o_step rfl (s_sub rfl rfl (by omega)) ?_; refine o_step rfl (s_assign rfl) ?_; refine o_nil ?_; refine x_then (hK39 _ _ ?_); refine c_ret ?_; refine ?_; exact x_ret rfl (.tmp rfl (.nil)) (⟨_, rfl⟩)
end Go.Proofs.YtopmnmigpbdddaaGreatDoor

/- Part of the proofs over this seat: see the text that holds the theorem. Conditions: each theorem bears its own. -/
namespace Go.Proofs.YtopmnmigpbdddaaGreatDoor
open Go Go.HL Go.Proofs Go.HL.Kl Go.HL.Kl.Mc
end Go.Proofs.YtopmnmigpbdddaaGreatDoor

/- Part of the proofs over this seat: see the text that holds the theorem. Conditions: each theorem bears its own. -/
namespace Go.Proofs.YtopmnmigpbdddaaGreatDoor
open Go Go.HL Go.Proofs Go.HL.Kl Go.HL.Kl.Mc
end Go.Proofs.YtopmnmigpbdddaaGreatDoor

/- Part of the proofs over this seat: see the text that holds the theorem. Conditions: each theorem bears its own. -/
namespace Go.Proofs.YtopmnmigpbdddaaGreatDoor
open Go Go.HL Go.Proofs Go.HL.Kl Go.HL.Kl.Mc
end Go.Proofs.YtopmnmigpbdddaaGreatDoor

/- Part of the proofs over this seat: see the text that holds the theorem. Conditions: each theorem bears its own. -/
namespace Go.Proofs.YtopmnmigpbdddaaGreatDoor
open Go Go.HL Go.Proofs Go.HL.Kl Go.HL.Kl.Mc
end Go.Proofs.YtopmnmigpbdddaaGreatDoor
