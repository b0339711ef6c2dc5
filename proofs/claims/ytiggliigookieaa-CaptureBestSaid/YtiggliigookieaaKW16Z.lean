/- Part of the proofs over this seat: see the text that holds the theorem. Conditions: each theorem bears its own. -/
import Derived.Test.YtiggliigookieaaKW14Z
import Derived.Test.YtiggliigookieaaMK11Z
namespace Go.Proofs.Ytiggliigookieaa
open Go Go.HL Go.Proofs Go.HL.Kl Go.HL.Kl.Mc Go.HL.Kl.Mc.AskE
set_option maxHeartbeats 4000000 in
theorem all_fn (K : CntE) (hK : K.ok) (L : Int) (ihA : ∀ L2 : Int, L2.toNat < L.toNat → AllL K L2) (ihR : ∀ L2 : Int, L2.toNat < L.toNat → RowsL K L2) (ihN : ∀ L2 : Int, L2.toNat < L.toNat → RndL K L2) (x : Nd) (ks : F) (i e p q : Nat) (hp : Part K.re (.nd x ks .nil) i e) (hpq : p ≤ q) (hqt : q ≤ K.tx.length) (hL1 : L ≤ 20000) (hL0 : -1000000000000 ≤ L) : HL.Fn Try.prog 22 [pt K.bC, K.vre, K.vtx, .int .i64 i, .int .i64 p, .int .i64 q] (PreC K []) [(K.bC, .cells [.int .i64 L].toArray 57 (0, 0))] (AllP 57 K L (loA L) 0 [] (dT K.tx (.nd x ks .nil) false i p q)) := by
  refine fn_of Try.func22 rfl rfl rfl fun w0 hw => ?_
  have htl := hK.tx
  have hrl := hK.len
  have hsl := hw.d1.sl
  have hst := hw.d2.sl
  obtain rfl : e = i + 1 + ks.size := by have := hp.len; simp only [F.size] at this; omega
  obtain ⟨hx, hpk, _⟩ := hp.head
  have hilt := (List.getElem?_eq_some_iff.1 hx).1
  have hok := hp.wf.1
  have hxm := List.mem_of_getElem? hx
  have hox := hK.rng x hxm
  have hx8 := hK.no8 x hxm
  have hop : 1 ≤ x.op ∧ x.op ≤ 8 := (flds_iff.1 (by simp only [ndOk, Bool.and_eq_true] at hok; exact hok.1)).1
  have hpkl := hpk.le
  have hnum := F.num_le ks
  have hkn : (ks.num : Int) = x.kids := hp.wf.2.1
  refine c_seq fun _ hK1 => ?_
  refine c_region ?_
  refine o_step rfl (s_assign rfl) ?_
  refine o_nil ?_
  refine x_then (hK1 _ _ ?_)
  refine c_seq fun _ hK2 => ?_
  refine c_region ?_
  refine o_step rfl (s_move rfl) ?_
  refine o_step rfl (s_nil rfl) ?_
  refine o_step rfl (s_field rfl rfl (by decide)) ?_
  refine o_step rfl (s_ld rfl (.own meA rfl)) ?_
  refine o_step rfl (s_sub rfl rfl (by omega)) ?_
  refine o_step rfl (s_nil rfl) ?_
  refine o_step rfl (s_field rfl rfl (by decide)) ?_
  refine o_store rfl rfl rfl upA ltA rfl ?_
  refine o_nil ?_
  refine x_then (hK2 _ _ ?_)
  refine c_seq fun _ hK3 => ?_
  refine c_seq fun _ hK4 => ?_
  refine c_region ?_
  refine o_step rfl (s_move rfl) ?_
  refine o_step rfl (s_nil rfl) ?_
  refine o_step rfl (s_field rfl rfl (by decide)) ?_
  refine o_step rfl (s_ld rfl (.own meA rfl)) ?_
  by_cases hLn : L - 1 < 0
  ·
   refine o_step rfl (step_cast (v' := .bool true) (s_lss rfl rfl) (by rw [decide_eq_true (by omega)])) ?_
   refine o_nil ?_
   refine x_then (hK4 _ _ ?_)
   refine c_true rfl ?_
   refine c_seq fun _ hK5 => ?_
   refine c_region ?_
   refine o_step rfl (s_assign rfl) ?_
   refine o_nil ?_
   refine x_then (hK5 _ _ ?_)
   refine c_ret ?_
   refine x_then_ret (?_)
   refine x_sub (Sub.refl _) (H' := (K.bC, .cells [.int .i64 (L - 1)].toArray 57 (0, 0)) :: []) hzB ?_
   exact x_ret rfl (.tmp rfl (.nil)) (⟨L - 1, none, 0, [], [], [], rfl, rfl, .nil, ⟨fun _ _ _ => .nil, fun h => by omega⟩, by omega, by unfold loA; split <;> omega, by simp; omega⟩)
  ·
   refine o_step rfl (step_cast (v' := .bool false) (s_lss rfl rfl) (by rw [decide_eq_false (by omega)])) ?_
   refine o_nil ?_
   refine x_then (hK4 _ _ ?_)
   refine c_false rfl ?_
   refine c_skip ?_
   refine x_then (hK3 _ _ ?_)
   refine c_seq fun _ hK6 => ?_
   refine c_region ?_
   refine o_step rfl (s_move rfl) ?_
   refine o_step rfl (s_move rfl) ?_
   refine o_step rfl (s_idx rfl rfl hsl (by omega)) ?_
   refine o_step rfl (s_ldB rfl ((RdK.old hw.d1 hw.a1).lds i hx rfl) lnA) ?_
   refine o_alloc (l := En zN) (by rw [En_zero]; rfl) rfl fun b13 => ?_
   refine o_stW rfl rfl upA lnA lnA onA ?_
   refine o_nil ?_
   refine x_then (hK6 _ _ ?_)
   refine c_seq fun _ hK7 => ?_
   refine c_region ?_
   refine o_step rfl (s_move rfl) ?_
   refine o_step rfl (s_move rfl) ?_
   refine o_step rfl (s_move rfl) ?_
   refine o_step rfl (step_cast (v' := .agg (Erw (⟨i, p, q, none, 0, 0⟩ : Rw)).toArray) (s_build (cs := [_, _, _, _]) (vs := [_, _, _]) rfl rfl (.cons rfl rfl rfl rfl rfl (.cons rfl rfl rfl rfl rfl (.cons rfl rfl rfl rfl rfl .nil)))) rfl) ?_
   refine o_alloc (l := Erw ⟨0, 0, 0, none, 0, 0⟩) rfl rfl fun b14 => ?_
   refine o_stW rfl rfl upA lnA lnA onA ?_
   refine o_nil ?_
   refine x_then (hK7 _ _ ?_)
   refine c_seq fun _ hK8 => ?_
   refine c_seq fun _ hK9 => ?_
   refine c_region ?_
   refine o_step rfl (s_field rfl rfl (by decide)) ?_
   refine o_step rfl (s_ld rfl (.own meA rfl)) ?_
   refine o_step rfl (s_convI rfl (by omega)) ?_
   refine o_nil ?_
   refine x_then (hK9 _ _ ?_)
   refine c_block ?_
   refine c_seq fun _ hK10 => ?_
   refine c_region ?_
   by_cases o1 : x.op = 1
   ·
    refine o_step rfl (step_cast (v' := .bool true) (s_eql rfl rfl) (by rw [decide_eq_true o1])) ?_
    refine o_step rfl (s_assign rfl) ?_
    refine o_nil ?_
    refine x_then (hK10 _ _ ?_)
    refine c_true rfl ?_
    refine c_seq fun _ hK11 => ?_
    refine c_seq fun _ hK12 => ?_
    refine c_drawE ([(b13, .cells (En x).toArray 51 (0, 0))]) (fun i => false) ?_
    refine e_take 0 rfl (by kernel_rfl) (by kernel_rfl) (by kernel_rfl) (by kernel_rfl) (fun _ _ => rfl) rfl hzB (s_move rfl) ?_
    refine e_take 1 rfl (by kernel_rfl) (by kernel_rfl) (by kernel_rfl) (by kernel_rfl) (fun _ _ => rfl) rfl hzB (s_move rfl) ?_
    refine e_take 2 rfl (by kernel_rfl) (by kernel_rfl) (by kernel_rfl) (by kernel_rfl) (fun _ _ => rfl) rfl hzB (s_add rfl rfl (by omega)) ?_
    by_cases hq1 : (q : Int) = (p : Int) + 1
    ·
     obtain ⟨b, hpb⟩ : ∃ b, K.tx[p]? = some b := ⟨_, List.getElem?_eq_getElem (by omega)⟩
     refine e_take 3 rfl (by kernel_rfl) (by kernel_rfl) (by kernel_rfl) (by kernel_rfl) (fun _ _ => rfl) rfl hzB (step_cast (v' := .bool true) (s_eql rfl rfl) (by rw [decide_eq_true (by omega)])) ?_
     refine e_take 4 rfl (by kernel_rfl) (by kernel_rfl) (by kernel_rfl) (by kernel_rfl) (fun _ _ => rfl) rfl hzB (s_move rfl) ?_
     refine e_take 5 rfl (by kernel_rfl) (by kernel_rfl) (by kernel_rfl) (by kernel_rfl) (fun _ fr => by rw [wanted_of fr rfl rfl rfl]; rfl) rfl hzB (s_field rfl rfl (by decide)) ?_
     refine e_take 6 rfl (by kernel_rfl) (by kernel_rfl) (by kernel_rfl) (by kernel_rfl) (fun _ fr => by rw [wanted_of fr rfl rfl rfl]; rfl) rfl hzB (s_ldB rfl (RdPK.cels (RdPK.own' (cs := Ec x.set) meA nd_set)) (Ec_lenM _)) ?_
     refine e_take 7 rfl (by kernel_rfl) (by kernel_rfl) (by kernel_rfl) (by kernel_rfl) (fun _ fr => by rw [wanted_of fr rfl rfl rfl]; rfl) rfl hzB (s_move rfl) ?_
     refine e_take 8 rfl (by kernel_rfl) (by kernel_rfl) (by kernel_rfl) (by kernel_rfl) (fun _ fr => by rw [wanted_of fr rfl rfl rfl]; rfl) rfl hzB (s_move rfl) ?_
     refine e_take 9 rfl (by kernel_rfl) (by kernel_rfl) (by kernel_rfl) (by kernel_rfl) (fun _ fr => by rw [wanted_of fr rfl rfl rfl]; rfl) rfl hzB (s_idx rfl rfl hst (by omega)) ?_
     refine e_take 10 rfl (by kernel_rfl) (by kernel_rfl) (by kernel_rfl) (by kernel_rfl) (fun _ fr => by rw [wanted_of fr rfl rfl rfl]; rfl) rfl hzB (s_ld rfl ((RdK.old hw.d2 hw.a2).ld p 0 hpb rfl (by decide) (by omega))) ?_
     refine e_one 11 rfl (by kernel_rfl) ?_
     refine o_yes rfl rfl ?_
     refine o_callP (rHas_fn x.set b.toNat b.toNat_lt) rfl rfl rfl (fun _ _ => trivial) (fun v59 hv59 => ?_)
     subst hv59
     cases hh : x.set.getLsbD b.toNat
     ·
      refine o_nil ?_
      refine x_oneS hzB ?_
      refine e_one 12 rfl (by kernel_rfl) ?_
      refine o_step rfl (s_pick_t rfl rfl) ?_
      refine o_nil ?_
      refine x_oneS hzB ?_
      refine e_done (by kernel_rfl) ?_
      refine x_then (hK12 _ _ ?_)
      refine c_false rfl ?_
      refine c_skip ?_
      refine x_then (hK11 _ _ ?_)
      refine c_seq fun _ hK13 => ?_
      refine c_region ?_
      refine o_step rfl (s_assign rfl) ?_
      refine o_nil ?_
      refine x_then (hK13 _ _ ?_)
      refine c_ret ?_
      refine x_block_ret (x_then_ret (?_))
      refine x_sub (Sub.refl _) (H' := (K.bC, .cells [.int .i64 (L - 1)].toArray 57 (0, 0)) :: []) hzB ?_
      exact x_ret rfl (.tmp rfl (.nil)) (⟨L - 1, none, 0, [], [], [], rfl, rfl, .nil, .nil (leafN fun K_ h => by rw [d1T_1 o1] at h; obtain ⟨_, _, b2, h1, h2⟩ := h; rw [hpb] at h1; cases h1; rw [hh] at h2; cases h2), by omega, by unfold loA; rw [if_pos (by omega)]; omega, by simp; omega⟩)
     ·
      refine o_nil ?_
      refine x_oneS hzB ?_
      refine e_one 12 rfl (by kernel_rfl) ?_
      refine o_step rfl (s_pick_t rfl rfl) ?_
      refine o_nil ?_
      refine x_oneS hzB ?_
      refine e_done (by kernel_rfl) ?_
      refine x_then (hK12 _ _ ?_)
      refine c_true rfl ?_
      refine c_seq fun _ hK14 => ?_
      refine c_region ?_
      refine o_step rfl (s_ldB rfl (RdPK.cels (.own meA)) lnA) ?_
      refine o_bs (E := Erw) (xs := [(⟨i, p, q, none, 0, 0⟩ : Rw)]) (vs := [_]) rfl rfl rfl rfl rfl (by decide) (by decide) fun b62 S62 hS62 => ?_
      refine o_step rfl (s_assign rfl) ?_
      refine o_nil ?_
      refine x_then (hK14 _ _ ?_)
      refine c_ret ?_
      refine x_then_ret (x_block_ret (x_then_ret (?_)))
      refine x_sub (Sub.refl _) (H' := (K.bC, .cells [.int .i64 (L - 1)].toArray 57 (0, 0)) :: S62) hzB ?_
      exact x_ret rfl (.tmp rfl (.nil)) (⟨L - 1, _, _, [(⟨i, p, q, none, 0, 0⟩ : Rw)], [.nd i p q .nil .nil], S62, rfl, rfl, hS62.rds, .one (fun W _ _ => ⟨.nil, rfl, kids0⟩) (leafY fun K_ => by rw [d1T_1 o1]; exact ⟨fun h => h.1, fun h => ⟨h, by omega, b, hpb, hh⟩⟩), by omega, by unfold loA; rw [if_pos (by omega)]; omega, by simp; omega⟩)
    ·
     refine e_take 3 rfl (by kernel_rfl) (by kernel_rfl) (by kernel_rfl) (by kernel_rfl) (fun _ _ => rfl) rfl hzB (step_cast (v' := .bool false) (s_eql rfl rfl) (by rw [decide_eq_false (by omega)])) ?_
     refine e_take 4 rfl (by kernel_rfl) (by kernel_rfl) (by kernel_rfl) (by kernel_rfl) (fun _ _ => rfl) rfl hzB (s_move rfl) ?_
     refine e_skip 5 rfl (by kernel_rfl) (by kernel_rfl) (by kernel_rfl) rfl rfl rfl rfl ?_
     refine e_skip 6 rfl (by kernel_rfl) (by kernel_rfl) (by kernel_rfl) rfl rfl rfl rfl ?_
     refine e_skip 7 rfl (by kernel_rfl) (by kernel_rfl) (by kernel_rfl) rfl rfl rfl rfl ?_
     refine e_skip 8 rfl (by kernel_rfl) (by kernel_rfl) (by kernel_rfl) rfl rfl rfl rfl ?_
     refine e_skip 9 rfl (by kernel_rfl) (by kernel_rfl) (by kernel_rfl) rfl rfl rfl rfl ?_
     refine e_skip 10 rfl (by kernel_rfl) (by kernel_rfl) (by kernel_rfl) rfl rfl rfl rfl ?_
     refine e_one 11 rfl (by kernel_rfl) ?_
     refine o_no rfl rfl rfl rfl ?_
     refine o_nil ?_
     refine x_oneS hzB ?_
     refine e_one 12 rfl (by kernel_rfl) ?_
     refine o_step rfl (s_pick_f rfl rfl) ?_
     refine o_nil ?_
     refine x_oneS hzB ?_
     refine e_done (by kernel_rfl) ?_
     refine x_then (hK12 _ _ ?_)
     refine c_false rfl ?_
     refine c_skip ?_
     refine x_then (hK11 _ _ ?_)
     refine c_seq fun _ hK15 => ?_
     refine c_region ?_
     refine o_step rfl (s_assign rfl) ?_
     refine o_nil ?_
     refine x_then (hK15 _ _ ?_)
     refine c_ret ?_
     refine x_block_ret (x_then_ret (?_))
     refine x_sub (Sub.refl _) (H' := (K.bC, .cells [.int .i64 (L - 1)].toArray 57 (0, 0)) :: []) hzB ?_
     exact x_ret rfl (.tmp rfl (.nil)) (⟨L - 1, none, 0, [], [], [], rfl, rfl, .nil, .nil (leafN fun K_ h => by rw [d1T_1 o1] at h; omega), by omega, by unfold loA; rw [if_pos (by omega)]; omega, by simp; omega⟩)
   ·
    refine o_step rfl (step_cast (v' := .bool false) (s_eql rfl rfl) (by rw [decide_eq_false o1])) ?_
    refine o_step rfl (s_assign rfl) ?_
    refine o_nil ?_
    refine x_then (hK10 _ _ ?_)
    refine c_false rfl ?_
    refine c_seq fun _ hK16 => ?_
    refine c_region ?_
    by_cases o2 : x.op = 2
    ·
     refine o_step rfl (step_cast (v' := .bool true) (s_eql rfl rfl) (by rw [decide_eq_true o2])) ?_
     refine o_step rfl (s_assign rfl) ?_
     refine o_nil ?_
     refine x_then (hK16 _ _ ?_)
     refine c_true rfl ?_
     refine c_seq fun _ hK17 => ?_
     refine c_seq fun _ hK18 => ?_
     refine c_region ?_
     refine o_step rfl (s_move rfl) ?_
     by_cases hp0 : (p : Int) = 0
     ·
      refine o_step rfl (step_cast (v' := .bool true) (s_eql rfl rfl) (by rw [decide_eq_true (by omega)])) ?_
      refine o_step rfl (s_move rfl) ?_
      refine o_yes rfl rfl ?_
      refine o_step rfl (s_move rfl) ?_
      refine o_yes rfl rfl ?_
      by_cases hq0 : (q : Int) = 0
      ·
       refine o_step rfl (step_cast (v' := .bool true) (s_eql rfl rfl) (by rw [decide_eq_true (by omega)])) ?_
       refine o_step rfl (s_pick_t rfl rfl) ?_
       refine o_nil ?_
       refine x_then (hK18 _ _ ?_)
       refine c_true rfl ?_
       refine c_seq fun _ hK19 => ?_
       refine c_region ?_
       refine o_step rfl (s_ldB rfl (RdPK.cels (.own meA)) lnA) ?_
       refine o_bs (E := Erw) (xs := [(⟨i, p, q, none, 0, 0⟩ : Rw)]) (vs := [_]) rfl rfl rfl rfl rfl (by decide) (by decide) fun b72 S72 hS72 => ?_
       refine o_step rfl (s_assign rfl) ?_
       refine o_nil ?_
       refine x_then (hK19 _ _ ?_)
       refine c_ret ?_
       refine x_then_ret (x_block_ret (x_then_ret (?_)))
       refine x_sub (Sub.refl _) (H' := (K.bC, .cells [.int .i64 (L - 1)].toArray 57 (0, 0)) :: S72) hzB ?_
       exact x_ret rfl (.tmp rfl (.nil)) (⟨L - 1, _, _, [(⟨i, p, q, none, 0, 0⟩ : Rw)], [.nd i p q .nil .nil], S72, rfl, rfl, hS72.rds, .one (fun W _ _ => ⟨.nil, rfl, kids0⟩) (leafY fun K_ => by rw [d1T_2 o2]; exact ⟨fun h => h.1, fun h => ⟨h, by omega, by omega⟩⟩), by omega, by unfold loA; rw [if_pos (by omega)]; omega, by simp; omega⟩)
      ·
       refine o_step rfl (step_cast (v' := .bool false) (s_eql rfl rfl) (by rw [decide_eq_false (by omega)])) ?_
       refine o_step rfl (s_pick_t rfl rfl) ?_
       refine o_nil ?_
       refine x_then (hK18 _ _ ?_)
       refine c_false rfl ?_
       refine c_skip ?_
       refine x_then (hK17 _ _ ?_)
       refine c_seq fun _ hK20 => ?_
       refine c_region ?_
       refine o_step rfl (s_assign rfl) ?_
       refine o_nil ?_
       refine x_then (hK20 _ _ ?_)
       refine c_ret ?_
       refine x_block_ret (x_then_ret (?_))
       refine x_sub (Sub.refl _) (H' := (K.bC, .cells [.int .i64 (L - 1)].toArray 57 (0, 0)) :: []) hzB ?_
       exact x_ret rfl (.tmp rfl (.nil)) (⟨L - 1, none, 0, [], [], [], rfl, rfl, .nil, .nil (leafN fun K_ h => by rw [d1T_2 o2] at h; omega), by omega, by unfold loA; rw [if_pos (by omega)]; omega, by simp; omega⟩)
     ·
      refine o_step rfl (step_cast (v' := .bool false) (s_eql rfl rfl) (by rw [decide_eq_false (by omega)])) ?_
      refine o_step rfl (s_move rfl) ?_
      refine o_no rfl rfl rfl rfl ?_
      refine o_no rfl rfl rfl rfl ?_
      refine o_step rfl (s_pick_f rfl rfl) ?_
      refine o_nil ?_
      refine x_then (hK18 _ _ ?_)
      refine c_false rfl ?_
      refine c_skip ?_
      refine x_then (hK17 _ _ ?_)
      refine c_seq fun _ hK21 => ?_
      refine c_region ?_
      refine o_step rfl (s_assign rfl) ?_
      refine o_nil ?_
      refine x_then (hK21 _ _ ?_)
      refine c_ret ?_
      refine x_block_ret (x_then_ret (?_))
      refine x_sub (Sub.refl _) (H' := (K.bC, .cells [.int .i64 (L - 1)].toArray 57 (0, 0)) :: []) hzB ?_
      exact x_ret rfl (.tmp rfl (.nil)) (⟨L - 1, none, 0, [], [], [], rfl, rfl, .nil, .nil (leafN fun K_ h => by rw [d1T_2 o2] at h; omega), by omega, by unfold loA; rw [if_pos (by omega)]; omega, by simp; omega⟩)
    ·
     refine o_step rfl (step_cast (v' := .bool false) (s_eql rfl rfl) (by rw [decide_eq_false o2])) ?_
     refine o_step rfl (s_assign rfl) ?_
     refine o_nil ?_
     refine x_then (hK16 _ _ ?_)
     refine c_false rfl ?_
     refine c_seq fun _ hK22 => ?_
     refine c_region ?_
     by_cases o3 : x.op = 3
     ·
      refine o_step rfl (step_cast (v' := .bool true) (s_eql rfl rfl) (by rw [decide_eq_true o3])) ?_
      refine o_step rfl (s_assign rfl) ?_
      refine o_nil ?_
      refine x_then (hK22 _ _ ?_)
      refine c_true rfl ?_
      refine c_seq fun _ hK23 => ?_
      refine c_seq fun _ hK24 => ?_
      refine c_region ?_
      refine o_step rfl (s_move rfl) ?_
      refine o_step rfl (s_move rfl) ?_
      refine o_step rfl (s_len rfl) ?_
      by_cases hpl : (p : Int) = K.tx.length
      ·
       refine o_step rfl (step_cast (v' := .bool true) (s_eql rfl rfl) (by rw [decide_eq_true (by omega)])) ?_
       refine o_step rfl (s_move rfl) ?_
       refine o_yes rfl rfl ?_
       refine o_step rfl (s_move rfl) ?_
       refine o_yes rfl rfl ?_
       refine o_step rfl (s_move rfl) ?_
       refine o_yes rfl rfl ?_
       by_cases hqp : (q : Int) = p
       ·
        refine o_step rfl (step_cast (v' := .bool true) (s_eql rfl rfl) (by rw [decide_eq_true (by omega)])) ?_
        refine o_step rfl (s_pick_t rfl rfl) ?_
        refine o_nil ?_
        refine x_then (hK24 _ _ ?_)
        refine c_true rfl ?_
        refine c_seq fun _ hK25 => ?_
        refine c_region ?_
        refine o_step rfl (s_ldB rfl (RdPK.cels (.own meA)) lnA) ?_
        refine o_bs (E := Erw) (xs := [(⟨i, p, q, none, 0, 0⟩ : Rw)]) (vs := [_]) rfl rfl rfl rfl rfl (by decide) (by decide) fun b85 S85 hS85 => ?_
        refine o_step rfl (s_assign rfl) ?_
        refine o_nil ?_
        refine x_then (hK25 _ _ ?_)
        refine c_ret ?_
        refine x_then_ret (x_block_ret (x_then_ret (?_)))
        refine x_sub (Sub.refl _) (H' := (K.bC, .cells [.int .i64 (L - 1)].toArray 57 (0, 0)) :: S85) hzB ?_
        exact x_ret rfl (.tmp rfl (.nil)) (⟨L - 1, _, _, [(⟨i, p, q, none, 0, 0⟩ : Rw)], [.nd i p q .nil .nil], S85, rfl, rfl, hS85.rds, .one (fun W _ _ => ⟨.nil, rfl, kids0⟩) (leafY fun K_ => by rw [d1T_3 o3]; exact ⟨fun h => h.1, fun h => ⟨h, by omega, by omega⟩⟩), by omega, by unfold loA; rw [if_pos (by omega)]; omega, by simp; omega⟩)
       ·
        refine o_step rfl (step_cast (v' := .bool false) (s_eql rfl rfl) (by rw [decide_eq_false (by omega)])) ?_
        refine o_step rfl (s_pick_t rfl rfl) ?_
        refine o_nil ?_
        refine x_then (hK24 _ _ ?_)
        refine c_false rfl ?_
        refine c_skip ?_
        refine x_then (hK23 _ _ ?_)
        refine c_seq fun _ hK26 => ?_
        refine c_region ?_
        refine o_step rfl (s_assign rfl) ?_
        refine o_nil ?_
        refine x_then (hK26 _ _ ?_)
        refine c_ret ?_
        refine x_block_ret (x_then_ret (?_))
        refine x_sub (Sub.refl _) (H' := (K.bC, .cells [.int .i64 (L - 1)].toArray 57 (0, 0)) :: []) hzB ?_
        exact x_ret rfl (.tmp rfl (.nil)) (⟨L - 1, none, 0, [], [], [], rfl, rfl, .nil, .nil (leafN fun K_ h => by rw [d1T_3 o3] at h; omega), by omega, by unfold loA; rw [if_pos (by omega)]; omega, by simp; omega⟩)
      ·
       refine o_step rfl (step_cast (v' := .bool false) (s_eql rfl rfl) (by rw [decide_eq_false (by omega)])) ?_
       refine o_step rfl (s_move rfl) ?_
       refine o_no rfl rfl rfl rfl ?_
       refine o_no rfl rfl rfl rfl ?_
       refine o_no rfl rfl rfl rfl ?_
       refine o_step rfl (s_pick_f rfl rfl) ?_
       refine o_nil ?_
       refine x_then (hK24 _ _ ?_)
       refine c_false rfl ?_
       refine c_skip ?_
       refine x_then (hK23 _ _ ?_)
       refine c_seq fun _ hK27 => ?_
       refine c_region ?_
       refine o_step rfl (s_assign rfl) ?_
       refine o_nil ?_
       refine x_then (hK27 _ _ ?_)
       refine c_ret ?_
       refine x_block_ret (x_then_ret (?_))
       refine x_sub (Sub.refl _) (H' := (K.bC, .cells [.int .i64 (L - 1)].toArray 57 (0, 0)) :: []) hzB ?_
       exact x_ret rfl (.tmp rfl (.nil)) (⟨L - 1, none, 0, [], [], [], rfl, rfl, .nil, .nil (leafN fun K_ h => by rw [d1T_3 o3] at h; omega), by omega, by unfold loA; rw [if_pos (by omega)]; omega, by simp; omega⟩)
     ·
      refine o_step rfl (step_cast (v' := .bool false) (s_eql rfl rfl) (by rw [decide_eq_false o3])) ?_
      refine o_step rfl (s_assign rfl) ?_
      refine o_nil ?_
      refine x_then (hK22 _ _ ?_)
      refine c_false rfl ?_
      refine c_seq fun _ hK28 => ?_
      refine c_region ?_
      by_cases o4 : x.op = 4
      ·
       refine o_step rfl (step_cast (v' := .bool true) (s_eql rfl rfl) (by rw [decide_eq_true o4])) ?_
       refine o_step rfl (s_assign rfl) ?_
       refine o_nil ?_
       refine x_then (hK28 _ _ ?_)
       refine c_true rfl ?_
       refine c_seq fun _ hK29 => ?_
       refine c_region ?_
       refine o_step rfl (s_move rfl) ?_
       refine o_step rfl (s_move rfl) ?_
       refine o_step rfl (s_move rfl) ?_
       refine o_step rfl (s_ldB rfl (RdPK.cels (.own meA)) lnA) ?_
       refine o_step rfl (s_move rfl) ?_
       refine o_step rfl (s_add rfl rfl (by omega)) ?_
       refine o_step rfl (s_move rfl) ?_
       refine o_call (ihR (L - 1) (by omega) ks x ks (⟨i, p, q, none, 0, 0⟩ : Rw) [] .nil [] (i + 1) _ p hpk hp hpq hqt rfl (by simp; omega) (fun W _ => ⟨Rd.nil Erw W, rfl⟩) (by omega) (by omega)) rfl rfl rfl pkA (fun w2 st => hw.none st) (fun v95 S95 ⟨L3, a3, c3, zs, us, S3, hv95, hS95, hR3, hA3, h3a, h3b, h3c⟩ => ?_)
       subst hv95
       subst hS95
       have h3d : -1000000 * L - 820041 ≤ L3 := by unfold loR at h3b; rw [if_pos (by omega)] at h3b; omega
       refine o_step rfl (s_assign rfl) ?_
       refine o_nil ?_
       refine x_then (hK29 _ _ ?_)
       refine c_ret ?_
       refine x_block_ret (x_then_ret (?_))
       refine x_sub (Sub.refl _) (H' := (K.bC, .cells [.int .i64 L3].toArray 57 (0, 0)) :: S3) hzB ?_
       exact x_ret rfl (.tmp rfl (.nil)) (⟨L3, a3, c3, zs, us, S3, rfl, rfl, hR3, hA3.low (Int.le_refl _) fun _ T => (goes_ups fun K_ => (d1T_4 (.inl o4)).symm).trans ups_one.symm, by omega, by unfold loA; rw [if_pos (by omega)]; omega, by omega⟩)
      ·
       refine o_step rfl (step_cast (v' := .bool false) (s_eql rfl rfl) (by rw [decide_eq_false o4])) ?_
       refine o_step rfl (s_assign rfl) ?_
       refine o_nil ?_
       refine x_then (hK28 _ _ ?_)
       refine c_false rfl ?_
       refine c_seq fun _ hK30 => ?_
       refine c_region ?_
       by_cases o5 : x.op = 5
       ·
        refine o_step rfl (step_cast (v' := .bool true) (s_eql rfl rfl) (by rw [decide_eq_true o5])) ?_
        refine o_step rfl (s_assign rfl) ?_
        refine o_nil ?_
        refine x_then (hK30 _ _ ?_)
        refine c_true rfl ?_
        refine c_seq fun _ hK31 => ?_
        refine c_region ?_
        refine o_step rfl (s_assign rfl) ?_
        refine o_nil ?_
        refine x_then (hK31 _ _ ?_)
        refine c_seq fun _ hK32 => ?_
        refine c_region ?_
        refine o_step rfl (s_move rfl) ?_
        refine o_step rfl (s_add rfl rfl (by omega)) ?_
        refine o_step rfl (s_assign rfl) ?_
        refine o_nil ?_
        refine x_then (hK32 _ _ ?_)
        refine c_seq fun _ hK33 => ?_
        refine c_seq fun _ hK34 => ?_
        refine c_region ?_
        refine o_step rfl (s_assign rfl) ?_
        refine o_nil ?_
        refine x_then (hK34 _ _ ?_)
        refine c_block ?_
        refine c_loop9 (fun (c : Nat) (m : Nat) (r1 : F) (L2 : Int) (q1 : Sl Rw) (So : Hp) (ts : List TF) (G : Hp) (Q : (TF → Prop)) => c + r1.num = ks.num ∧ Part K.re r1 m (i + 1 + ks.size) ∧ OwnS Erw 4 35 (.slice q1.a q1.xs.length q1.c) q1.xs So ∧ Acc [] q1.xs ts G Q L2 ∧ (∀ T, Ups i p q (dT K.tx ks true (i + 1) p q) T ↔ Q T ∨ Ups i p q (dT K.tx r1 true m p q) T) ∧ L2 ≤ L - 1 ∧ -1000000 * L - c ≤ L2 ∧ (q1.xs.length : Int) + max L2 0 ≤ L - 1) (fun (c : Nat) (m : Nat) (r1 : F) (L2 : Int) (q1 : Sl Rw) (So : Hp) (ts : List TF) (G : Hp) (Q : (TF → Prop)) => [(17, .int .i64 c), (16, .int .i64 m), (15, .slice q1.a q1.xs.length q1.c)]) [(0, _), (1, _), (2, _), (3, _), (4, _), (5, _), (12, _), (13, _), (14, _)] (fun (c : Nat) (m : Nat) (r1 : F) (L2 : Int) (q1 : Sl Rw) (So : Hp) (ts : List TF) (G : Hp) (Q : (TF → Prop)) => (K.bC, .cells [.int .i64 L2].toArray 57 (0, 0)) :: (So ++ (G ++ [(b14, .cells (Erw (⟨i, p, q, none, 0, 0⟩ : Rw)).toArray 35 (0, 0)), (b13, .cells (En x).toArray 51 (0, 0))]))) (fun (c : Nat) (m : Nat) (r1 : F) (L2 : Int) (q1 : Sl Rw) (So : Hp) (ts : List TF) (G : Hp) (Q : (TF → Prop)) => ks.num - c) 0 (i + 1) ks (L - 1) ⟨none, 0, []⟩ [] [] [] (fun _ => False) ⟨by omega, hpk, .nil, .nil (fun _ h => h), fun T => ⟨.inr, fun h => h.elim False.elim id⟩, by omega, by omega, by simp; omega⟩ sbA sbA hzB ?_
        rintro c m r1 L2 q1 So ts G Q ⟨hcn, hpr, hq, hA, hQ, hl1, hl2, hl3⟩
        refine c_seq fun _ hK35 => ?_
        refine c_seq fun _ hK36 => ?_
        refine c_region ?_
        refine o_step rfl (s_move rfl) ?_
        refine o_step rfl (s_field rfl rfl (by decide)) ?_
        refine o_step rfl (s_ld rfl (.own meA rfl)) ?_
        by_cases hck : (c : Int) < x.kids
        ·
         obtain ⟨y, js, r2, rfl⟩ : ∃ y ks1 r2, r1 = F.nd y ks1 r2 := by cases r1 with | nil => simp [F.num] at hcn; omega | nd y a b => exact ⟨y, a, b, rfl⟩
         simp only [F.num] at hcn
         refine o_step rfl (step_cast (v' := .bool true) (s_lss rfl rfl) (by rw [decide_eq_true (by omega)])) ?_
         refine o_nil ?_
         refine x_then (hK36 _ _ ?_)
         refine c_true rfl ?_
         refine c_skip ?_
         refine x_then (hK35 _ _ ?_)
         refine c_seq fun _ hK37 => ?_
         refine c_block ?_
         refine c_seq fun _ hK38 => ?_
         refine c_region ?_
         refine o_step rfl (s_move rfl) ?_
         refine o_step rfl (s_move rfl) ?_
         refine o_step rfl (s_move rfl) ?_
         refine o_step rfl (s_move rfl) ?_
         refine o_step rfl (s_move rfl) ?_
         refine o_step rfl (s_move rfl) ?_
         refine o_call (ihA L2 (by omega) y js m _ p q hpr.one hpq hqt (by omega) (by omega)) rfl rfl rfl pkA (fun w2 st => hw.none st) (fun v112 S112 ⟨L3, a3, c3, zs, us, S3, hv112, hS112, hR3, hA3, h3a, h3b, h3c⟩ => ?_)
         subst hv112
         subst hS112
         have h3d : (0 ≤ L2 → -1000000 * (L2 + 1) ≤ L3) ∧ (L2 < 0 → L2 - 1 ≤ L3) := by unfold loA at h3b; split at h3b <;> omega
         refine o_step rfl (s_assign rfl) ?_
         refine o_nil ?_
         refine x_then (hK38 _ _ ?_)
         refine c_seq fun _ hK39 => ?_
         refine c_seq fun _ hK40 => ?_
         refine c_region ?_
         refine o_step rfl (s_assign rfl) ?_
         refine o_nil ?_
         refine x_then (hK40 _ _ ?_)
         refine c_block ?_
         refine c_knw (p := IsSl (.slice a3 zs.length c3) zs.length) (fun w2 st => ((hR3.rdk hiA).out w2 st).sl) fun hs3 => ?_
         refine c_knw (p := zs.length = us.length) (fun w2 st => (hA3.rows w2 (Bears.of st hiA) Bears.nil).len) fun hlen3 => ?_
         refine c_loop5 (fun (j : Nat) (q2 : Sl Rw) (So2 : Hp) (ts2 : List TF) (G2 : Hp) => j ≤ zs.length ∧ OwnS Erw 4 35 (.slice q2.a q2.xs.length q2.c) q2.xs So2 ∧ Acc [] q2.xs ts2 (G2 ++ S3) (QI Q us (fun U T => T = .nd i p q U .nil) j) L3 ∧ q2.xs.length = q1.xs.length + j) (fun (j : Nat) (q2 : Sl Rw) (So2 : Hp) (ts2 : List TF) (G2 : Hp) => [(19, .int .i64 j), (15, .slice q2.a q2.xs.length q2.c)]) [(0, _), (1, _), (2, _), (3, _), (4, _), (5, _), (12, _), (13, _), (14, _), (16, _), (17, _), (18, _), (100, _), (101, _), (102, _), (103, _), (106, _), (107, _), (108, _), (109, _), (110, _), (111, _), (112, _)] (fun (j : Nat) (q2 : Sl Rw) (So2 : Hp) (ts2 : List TF) (G2 : Hp) => (K.bC, .cells [.int .i64 L3].toArray 57 (0, 0)) :: (So2 ++ (G2 ++ (S3 ++ [(b14, .cells (Erw (⟨i, p, q, none, 0, 0⟩ : Rw)).toArray 35 (0, 0)), (b13, .cells (En x).toArray 51 (0, 0))])))) (fun (j : Nat) (q2 : Sl Rw) (So2 : Hp) (ts2 : List TF) (G2 : Hp) => zs.length - j) 0 q1 So ts G ⟨by omega, hq, (hA.grow hiB).low h3a fun _ T => QI_zero.symm, by omega⟩ sbA sbA hzB ?_
         rintro j q2 So2 ts2 G2 ⟨hj, hq2, hA2, hql⟩
         refine c_seq fun _ hK41 => ?_
         refine c_seq fun _ hK42 => ?_
         refine c_region ?_
         refine o_step rfl (s_move rfl) ?_
         refine o_step rfl (s_move rfl) ?_
         refine o_step rfl (s_len rfl) ?_
         by_cases hjz : (j : Int) < zs.length
         ·
          obtain ⟨z, hz⟩ : ∃ z, zs[j]? = some z := ⟨_, List.getElem?_eq_getElem (by omega)⟩
          obtain ⟨U, hU⟩ : ∃ U, us[j]? = some U := ⟨_, List.getElem?_eq_getElem (by have := hlen3; omega)⟩
          refine o_step rfl (step_cast (v' := .bool true) (s_lss rfl rfl) (by rw [decide_eq_true (by omega)])) ?_
          refine o_nil ?_
          refine x_then (hK42 _ _ ?_)
          refine c_true rfl ?_
          refine c_skip ?_
          refine x_then (hK41 _ _ ?_)
          refine c_seq fun _ hK43 => ?_
          refine c_block ?_
          refine c_region ?_
          refine o_step rfl (s_move rfl) ?_
          refine o_step rfl (s_move rfl) ?_
          refine o_step rfl (s_move rfl) ?_
          refine o_step rfl (s_move rfl) ?_
          refine o_step rfl (s_move rfl) ?_
          refine o_step rfl (s_move rfl) ?_
          refine o_step rfl (s_idx rfl rfl hs3 (by omega)) ?_
          refine o_step rfl (s_ldB rfl ((hR3.rdk hiA).lds j hz rfl) lnA) ?_
          refine o_bs (E := Erw) (xs := [z]) (vs := [_]) rfl rfl rfl rfl rfl (by decide) (by decide) fun b127 S127 hS127 => ?_
          refine o_step rfl (step_cast (v' := .agg (Erw (⟨i, p, q, some ⟨b127, 0, none⟩, 1, 1⟩ : Rw)).toArray) (s_build (cs := [_, _, _, _]) (vs := [_, _, _, _]) rfl rfl (.cons rfl rfl rfl rfl rfl (.cons rfl rfl rfl rfl rfl (.cons rfl rfl rfl rfl rfl (.cons rfl rfl rfl rfl rfl .nil))))) rfl) ?_
          refine o_bs (E := Erw) (xs := [(⟨i, p, q, some ⟨b127, 0, none⟩, 1, 1⟩ : Rw)]) (vs := [_]) rfl rfl rfl rfl rfl (by decide) (by decide) fun b129 S129 hS129 => ?_
          refine o_app hq2 (hS129.rdk hiA) rfl rfl rfl rfl (by simp; omega) (by simp; omega) rfl pkA fun a130 c130 S130 hS130 => ?_
          refine o_step rfl (s_assign rfl) ?_
          refine o_nil ?_
          refine x_block ?_
          refine x_then (hK43 _ _ ?_)
          refine c_region ?_
          refine o_step rfl (s_move rfl) ?_
          refine o_step rfl (s_add rfl rfl (by omega)) ?_
          refine o_step rfl (s_assign rfl) ?_
          refine o_nil ?_
          exact x_then (x_inv (j + 1, ⟨a130, c130, q2.xs ++ [(⟨i, p, q, some ⟨b127, 0, none⟩, 1, 1⟩ : Rw)]⟩, S130, ts2 ++ [.nd i p q U .nil], S127 ++ G2) ⟨by omega, hS130, (hA2.more (Sn := []) (G' := S127 ++ S3) (Acc.one (Q := fun T => T = .nd i p q U .nil) (fun W hb _ => ⟨U, rfl, [z], rfl, hS127.rd (Bears.app.1 hb).1, Tie.one ((hA3.rows W (Bears.app.1 hb).2 Bears.nil).get j z U hz hU)⟩) (fun _ => Iff.rfl)) (Int.le_refl _) hiB hiB hiB).low (Int.le_refl _) fun _ T => QI_succ hU, by dsimp only; rw [List.length_append, hql]; first | omega | (simp; omega) | (simp; done)⟩ (by first | omega | (dsimp only; omega)) sbA (by dsimp only; simp only [List.append_assoc, List.cons_append, List.nil_append]; exact hzB))
         ·
          obtain rfl : j = zs.length := by omega
          refine o_step rfl (step_cast (v' := .bool false) (s_lss rfl rfl) (by rw [decide_eq_false (by omega)])) ?_
          refine o_nil ?_
          refine x_then (hK42 _ _ ?_)
          refine c_false rfl ?_
          refine c_exit ?_
          refine x_then_exit ?_
          refine x_then_exit ?_
          refine x_block_exit ?_
          refine x_then (hK39 _ _ ?_)
          refine c_region ?_
          refine o_step rfl (s_move rfl) ?_
          refine o_step rfl (s_move rfl) ?_
          refine o_callP (behind10_fn K.ra K.rc K.re y js m _ hpr.one) rfl rfl rfl (fun w2 st => (RdK.old hw.d1 hw.a1).out w2 st) (fun v133 hv133 => ?_)
          subst hv133
          refine o_step rfl (s_assign rfl) ?_
          refine o_nil ?_
          refine x_block ?_
          refine x_then (hK37 _ _ ?_)
          refine c_region ?_
          refine o_step rfl (s_move rfl) ?_
          refine o_step rfl (s_add rfl rfl (by omega)) ?_
          refine o_step rfl (s_assign rfl) ?_
          refine o_nil ?_
          exact x_then (x_inv (c + 1, (m + 1 + js.size), r2, L3, q2, So2, ts2, G2 ++ S3, (fun T => Q T ∨ ∃ U, dT K.tx (.nd y js .nil) false m p q U ∧ T = .nd i p q U .nil)) ⟨by dsimp only; omega, hpr.head.2.2, hq2, hA2.low (Int.le_refl _) fun h0 T => QI_all (by omega) (hA3.mem h0), fun T => by dsimp only; rw [hQ T, ups_alt, or_assoc], by dsimp only; omega, by dsimp only; omega, by dsimp only; omega⟩ (by first | omega | (dsimp only; omega)) sbA (by dsimp only; simp only [List.append_assoc, List.cons_append, List.nil_append]; exact hzB))
        ·
         obtain rfl : r1 = F.nil := F.num_nil (by omega)
         refine o_step rfl (step_cast (v' := .bool false) (s_lss rfl rfl) (by rw [decide_eq_false (by omega)])) ?_
         refine o_nil ?_
         refine x_then (hK36 _ _ ?_)
         refine c_false rfl ?_
         refine c_exit ?_
         refine x_then_exit ?_
         refine x_then_exit ?_
         refine x_block_exit ?_
         refine x_then (hK33 _ _ ?_)
         refine c_seq fun _ hK44 => ?_
         refine c_region ?_
         refine o_step rfl (s_move rfl) ?_
         refine o_step rfl (s_assign rfl) ?_
         refine o_nil ?_
         refine x_then (hK44 _ _ ?_)
         refine c_ret ?_
         refine x_block_ret (x_then_ret (?_))
         refine x_sub (Sub.refl _) (H' := (K.bC, .cells [.int .i64 L2].toArray 57 (0, 0)) :: (So ++ G)) hzB ?_
         exact x_ret rfl (.tmp rfl (.nil)) (⟨L2, q1.a, q1.c, q1.xs, ts, So ++ G, rfl, rfl, hq.rds.mono hiB, (hA.grow hiB).low (Int.le_refl _) fun _ T => by rw [ups_one, show d1T K.tx x ks i p q = dT K.tx ks true (i + 1) p q from funext fun _ => propext (d1T_5 o5), hQ T]; exact ⟨.inl, fun h => h.elim id fun ⟨K_, h, _⟩ => by cases (dT_nil.1 h).1⟩, by omega, by unfold loA; rw [if_pos (by omega)]; omega, by omega⟩)
       ·
        refine o_step rfl (step_cast (v' := .bool false) (s_eql rfl rfl) (by rw [decide_eq_false o5])) ?_
        refine o_step rfl (s_assign rfl) ?_
        refine o_nil ?_
        refine x_then (hK30 _ _ ?_)
        refine c_false rfl ?_
        refine c_seq fun _ hK45 => ?_
        refine c_region ?_
        by_cases o7 : x.op = 7
        ·
         refine o_step rfl (step_cast (v' := .bool true) (s_eql rfl rfl) (by rw [decide_eq_true o7])) ?_
         refine o_step rfl (s_assign rfl) ?_
         refine o_nil ?_
         refine x_then (hK45 _ _ ?_)
         refine c_true rfl ?_
         refine c_seq fun _ hK46 => ?_
         obtain ⟨y, js, rfl⟩ := one_kid hp.wf (.inr o7)
         refine c_region ?_
         refine o_step rfl (s_assign rfl) ?_
         refine o_nil ?_
         refine x_then (hK46 _ _ ?_)
         refine c_seq fun _ hK47 => ?_
         refine c_region ?_
         refine o_step rfl (s_move rfl) ?_
         refine o_step rfl (s_move rfl) ?_
         refine o_step rfl (s_move rfl) ?_
         refine o_step rfl (s_move rfl) ?_
         refine o_step rfl (s_add rfl rfl (by omega)) ?_
         refine o_step rfl (s_move rfl) ?_
         refine o_step rfl (s_move rfl) ?_
         refine o_call (ihA (L - 1) (by omega) y js (i + 1) _ p q hpk hpq hqt (by omega) (by omega)) rfl rfl rfl pkA (fun w2 st => hw.none st) (fun v144 S144 ⟨L3, a3, c3, zs, us, S3, hv144, hS144, hR3, hA3, h3a, h3b, h3c⟩ => ?_)
         subst hv144
         subst hS144
         have h3d : -1000000 * L ≤ L3 := by unfold loA at h3b; rw [if_pos (by omega)] at h3b; omega
         refine o_step rfl (s_assign rfl) ?_
         refine o_nil ?_
         refine x_then (hK47 _ _ ?_)
         refine c_seq fun _ hK48 => ?_
         refine c_seq fun _ hK49 => ?_
         refine c_region ?_
         refine o_step rfl (s_assign rfl) ?_
         refine o_nil ?_
         refine x_then (hK49 _ _ ?_)
         refine c_block ?_
         refine c_knw (p := IsSl (.slice a3 zs.length c3) zs.length) (fun w2 st => ((hR3.rdk hiA).out w2 st).sl) fun hs3 => ?_
         refine c_knw (p := zs.length = us.length) (fun w2 st => (hA3.rows w2 (Bears.of st hiA) Bears.nil).len) fun hlen3 => ?_
         refine c_loop5 (fun (j : Nat) (q2 : Sl Rw) (So2 : Hp) (ts2 : List TF) (G2 : Hp) => j ≤ zs.length ∧ OwnS Erw 4 35 (.slice q2.a q2.xs.length q2.c) q2.xs So2 ∧ Acc [] q2.xs ts2 (G2 ++ S3) (QI (fun _ => False) us (fun U T => T = .nd i p q U .nil) j) L3 ∧ q2.xs.length = 0 + j) (fun (j : Nat) (q2 : Sl Rw) (So2 : Hp) (ts2 : List TF) (G2 : Hp) => [(22, .int .i64 j), (20, .slice q2.a q2.xs.length q2.c)]) [(0, _), (1, _), (2, _), (3, _), (4, _), (5, _), (12, _), (14, _), (21, _)] (fun (j : Nat) (q2 : Sl Rw) (So2 : Hp) (ts2 : List TF) (G2 : Hp) => (K.bC, .cells [.int .i64 L3].toArray 57 (0, 0)) :: (So2 ++ (G2 ++ (S3 ++ [(b14, .cells (Erw (⟨i, p, q, none, 0, 0⟩ : Rw)).toArray 35 (0, 0)), (b13, .cells (En x).toArray 51 (0, 0))])))) (fun (j : Nat) (q2 : Sl Rw) (So2 : Hp) (ts2 : List TF) (G2 : Hp) => zs.length - j) 0 ⟨none, 0, []⟩ [] [] [] ⟨by omega, .nil, .nil (fun T h => (QI_zero.1 h)), by simp⟩ sbA sbA hzB ?_
         rintro j q2 So2 ts2 G2 ⟨hj, hq2, hA2, hql⟩
         refine c_seq fun _ hK50 => ?_
         refine c_seq fun _ hK51 => ?_
         refine c_region ?_
         refine o_step rfl (s_move rfl) ?_
         refine o_step rfl (s_move rfl) ?_
         refine o_step rfl (s_len rfl) ?_
         by_cases hjz : (j : Int) < zs.length
         ·
          obtain ⟨z, hz⟩ : ∃ z, zs[j]? = some z := ⟨_, List.getElem?_eq_getElem (by omega)⟩
          obtain ⟨U, hU⟩ : ∃ U, us[j]? = some U := ⟨_, List.getElem?_eq_getElem (by have := hlen3; omega)⟩
          refine o_step rfl (step_cast (v' := .bool true) (s_lss rfl rfl) (by rw [decide_eq_true (by omega)])) ?_
          refine o_nil ?_
          refine x_then (hK51 _ _ ?_)
          refine c_true rfl ?_
          refine c_skip ?_
          refine x_then (hK50 _ _ ?_)
          refine c_seq fun _ hK52 => ?_
          refine c_block ?_
          refine c_region ?_
          refine o_step rfl (s_move rfl) ?_
          refine o_step rfl (s_move rfl) ?_
          refine o_step rfl (s_move rfl) ?_
          refine o_step rfl (s_move rfl) ?_
          refine o_step rfl (s_move rfl) ?_
          refine o_step rfl (s_move rfl) ?_
          refine o_step rfl (s_idx rfl rfl hs3 (by omega)) ?_
          refine o_step rfl (s_ldB rfl ((hR3.rdk hiA).lds j hz rfl) lnA) ?_
          refine o_bs (E := Erw) (xs := [z]) (vs := [_]) rfl rfl rfl rfl rfl (by decide) (by decide) fun b159 S159 hS159 => ?_
          refine o_step rfl (step_cast (v' := .agg (Erw (⟨i, p, q, some ⟨b159, 0, none⟩, 1, 1⟩ : Rw)).toArray) (s_build (cs := [_, _, _, _]) (vs := [_, _, _, _]) rfl rfl (.cons rfl rfl rfl rfl rfl (.cons rfl rfl rfl rfl rfl (.cons rfl rfl rfl rfl rfl (.cons rfl rfl rfl rfl rfl .nil))))) rfl) ?_
          refine o_bs (E := Erw) (xs := [(⟨i, p, q, some ⟨b159, 0, none⟩, 1, 1⟩ : Rw)]) (vs := [_]) rfl rfl rfl rfl rfl (by decide) (by decide) fun b161 S161 hS161 => ?_
          refine o_app hq2 (hS161.rdk hiA) rfl rfl rfl rfl (by simp; omega) (by simp; omega) rfl pkA fun a162 c162 S162 hS162 => ?_
          refine o_step rfl (s_assign rfl) ?_
          refine o_nil ?_
          refine x_block ?_
          refine x_then (hK52 _ _ ?_)
          refine c_region ?_
          refine o_step rfl (s_move rfl) ?_
          refine o_step rfl (s_add rfl rfl (by omega)) ?_
          refine o_step rfl (s_assign rfl) ?_
          refine o_nil ?_
          exact x_then (x_inv (j + 1, ⟨a162, c162, q2.xs ++ [(⟨i, p, q, some ⟨b159, 0, none⟩, 1, 1⟩ : Rw)]⟩, S162, ts2 ++ [.nd i p q U .nil], S159 ++ G2) ⟨by omega, hS162, (hA2.more (Sn := []) (G' := S159 ++ S3) (Acc.one (Q := fun T => T = .nd i p q U .nil) (fun W hb _ => ⟨U, rfl, [z], rfl, hS159.rd (Bears.app.1 hb).1, Tie.one ((hA3.rows W (Bears.app.1 hb).2 Bears.nil).get j z U hz hU)⟩) (fun _ => Iff.rfl)) (Int.le_refl _) hiB hiB hiB).low (Int.le_refl _) fun _ T => QI_succ hU, by dsimp only; rw [List.length_append, hql]; first | omega | (simp; omega) | (simp; done)⟩ (by first | omega | (dsimp only; omega)) sbA (by dsimp only; simp only [List.append_assoc, List.cons_append, List.nil_append]; exact hzB))
         ·
          obtain rfl : j = zs.length := by omega
          refine o_step rfl (step_cast (v' := .bool false) (s_lss rfl rfl) (by rw [decide_eq_false (by omega)])) ?_
          refine o_nil ?_
          refine x_then (hK51 _ _ ?_)
          refine c_false rfl ?_
          refine c_exit ?_
          refine x_then_exit ?_
          refine x_then_exit ?_
          refine x_block_exit ?_
          refine x_then (hK48 _ _ ?_)
          refine c_seq fun _ hK53 => ?_
          refine c_region ?_
          refine o_step rfl (s_move rfl) ?_
          refine o_step rfl (s_assign rfl) ?_
          refine o_nil ?_
          refine x_then (hK53 _ _ ?_)
          refine c_ret ?_
          refine x_block_ret (x_then_ret (?_))
          refine x_sub (Sub.refl _) (H' := (K.bC, .cells [.int .i64 L3].toArray 57 (0, 0)) :: (So2 ++ (G2 ++ S3))) hzB ?_
          exact x_ret rfl (.tmp rfl (.nil)) (⟨L3, q2.a, q2.c, q2.xs, ts2, So2 ++ (G2 ++ S3), rfl, rfl, hq2.rds.mono hiB, (hA2.grow hiB).low (Int.le_refl _) fun h0 T => (QI_all (by omega) (hA3.mem h0)).trans (by rw [ups_one, show d1T K.tx x _ i p q = dT K.tx (.nd y js .nil) false (i + 1) p q from funext fun _ => propext (d1T_4 (.inr o7))]; exact ⟨fun h => h.elim False.elim fun ⟨U, h1, h2⟩ => ⟨U, h1, h2⟩, fun ⟨U, h1, h2⟩ => .inr ⟨U, h1, h2⟩⟩), by omega, by unfold loA; rw [if_pos (by omega)]; omega, by omega⟩)
        ·
         refine o_step rfl (step_cast (v' := .bool false) (s_eql rfl rfl) (by rw [decide_eq_false o7])) ?_
         refine o_step rfl (s_assign rfl) ?_
         refine o_nil ?_
         refine x_then (hK45 _ _ ?_)
         refine c_false rfl ?_
         refine c_skip ?_
         refine x_block ?_
         refine x_then (hK8 _ _ ?_)
         refine c_seq fun _ hK54 => ?_
         have o6 : x.op = 6 := by omega
         obtain ⟨y, js, rfl⟩ := one_kid hp.wf (.inl o6)
         refine c_region ?_
         refine o_step rfl (s_move rfl) ?_
         refine o_step rfl (s_move rfl) ?_
         refine o_step rfl (s_move rfl) ?_
         refine o_step rfl (s_ldB rfl (RdPK.cels (.own meA)) lnA) ?_
         refine o_step rfl (s_move rfl) ?_
         refine o_call (ihN (L - 1) (by omega) x y js (⟨i, p, q, none, 0, 0⟩ : Rw) [] .nil [] _ p 0 hp o6 hpq hqt rfl rfl (by omega) (fun W _ => ⟨Rd.nil Erw W, rfl⟩) (by omega) (by omega)) rfl rfl rfl pkA (fun w2 st => hw.none st) (fun v169 S169 ⟨L3, a3, c3, zs, us, S3, hv169, hS169, hR3, hA3, h3a, h3b, h3c⟩ => ?_)
         subst hv169
         subst hS169
         have h3d : -1000000 * L - 820041 ≤ L3 := by unfold loR at h3b; rw [if_pos (by omega)] at h3b; omega
         refine o_step rfl (s_assign rfl) ?_
         refine o_nil ?_
         refine x_then (hK54 _ _ ?_)
         refine c_ret ?_
         refine ?_
         refine x_sub (Sub.refl _) (H' := (K.bC, .cells [.int .i64 L3].toArray 57 (0, 0)) :: S3) hzB ?_
         exact x_ret rfl (.tmp rfl (.nil)) (⟨L3, a3, c3, zs, us, S3, rfl, rfl, hR3, hA3.low (Int.le_refl _) fun _ T => (goes_ups fun K_ => (d1T_6 o6).symm).trans ups_one.symm, by omega, by unfold loA; rw [if_pos (by omega)]; omega, by omega⟩)
theorem all_all (K : CntE) (hK : K.ok) : ∀ (n : Nat) (L : Int), L.toNat < n → AllL K L ∧ RowsL K L ∧ RndL K L := by
  intro n
  induction n with
  | zero => intro L h; omega
  | succ n ih =>
    intro L h
    have hA : ∀ L2 : Int, L2.toNat ≤ L.toNat → AllL K L2 := fun L2 h2 x ks i e p q a1 a2 a3 a4 a5 => all_fn K hK L2 (fun L3 h3 => (ih L3 (by omega)).1) (fun L3 h3 => (ih L3 (by omega)).2.1) (fun L3 h3 => (ih L3 (by omega)).2.2) x ks i e p q a1 a2 a3 a4 a5
    exact ⟨hA L (Nat.le_refl _), fun g x0 ks0 so sys ksT Sk k e p a1 a2 a3 a4 a5 a6 a7 a8 a9 => rows_fn K hK L hA (fun L2 h2 => (ih L2 (by omega)).2.1) g x0 ks0 so sys ksT Sk k e p a1 a2 a3 a4 a5 a6 a7 a8 a9,
      fun x y js so sys ksT Sk e p r a1 a2 a3 a4 a5 a6 a7 a8 a9 b1 => rounds_fn K hK L hA (fun L2 h2 => (ih L2 (by omega)).2.2) x y js so sys ksT Sk e p r a1 a2 a3 a4 a5 a6 a7 a8 a9 b1⟩
end Go.Proofs.Ytiggliigookieaa

/- Mathematics of captures: trees apart from what is written; their sizes; what groups have taken behind a tree. Conditions: none. -/
namespace Go.HL.Kl.Mc
open Go Go.HL Go.HL.Kl
def TF.sz : TF → Nat
  | .nil => 0
  | .nd _ _ _ ks r => ks.sz + r.sz + 1
/-- spans are small -/
def Sm : TF → Prop
  | .nil => True
  | .nd _ p q ks r => p ≤ 1000 ∧ q ≤ 1000 ∧ Sm ks ∧ Sm r
theorem RT_sm {x : Nd} {D : Nat → Nat → TF → Prop} {N : Nat} (hN : N ≤ 1000) (hD : ∀ p q T, q ≤ N → D p q T → p ≤ q ∧ Sm T) : ∀ (K : TF) (r p q : Nat), q ≤ N → RT x D K r p q → p ≤ q ∧ Sm K
  | .nil, r, p, q, _, h => ⟨Nat.le_of_eq h.1, trivial⟩
  | .nd a p' m ks t, r, p, q, hq, ⟨_, h2, h3, _, h5, h6⟩ => by
    obtain ⟨h7, h8⟩ := RT_sm hN hD t _ _ _ hq h6
    obtain ⟨_, h9⟩ := hD _ _ _ (Nat.le_trans h7 hq) h5
    subst h2
    exact ⟨Nat.le_trans h3 h7, by omega, by omega, h9.2.2.1, h8⟩
theorem dT_sm {w : List UInt8} (hN : w.length ≤ 1000) : ∀ (f : F) (md : Bool) (i p q : Nat) (T : TF), q ≤ w.length → dT w f md i p q T → p ≤ q ∧ Sm T
  | .nil, md, i, p, q, T, _, h => by
    obtain ⟨_, rfl, rfl⟩ := dT_nil.1 h
    exact ⟨Nat.le_refl _, trivial⟩
  | .nd x ks r, md, i, p, q, T, hq, h => by
    have h1 : ∀ p q K, q ≤ w.length → d1T w x ks i p q K → p ≤ q ∧ Sm K := by
      intro p q K hq h
      unfold d1T at h
      split at h
      · obtain ⟨rfl, h, _⟩ := h; exact ⟨by omega, trivial⟩
      split at h
      · obtain ⟨rfl, h, _⟩ := h; exact ⟨by omega, trivial⟩
      split at h
      · obtain ⟨rfl, h, h'⟩ := h; exact ⟨by omega, trivial⟩
      split at h
      · exact dT_sm hN ks true _ _ _ _ hq h
      split at h
      · exact RT_sm hN (fun p q T hq h => dT_sm hN ks false _ _ _ _ hq h) K _ _ _ hq h
      · exact dT_sm hN ks false _ _ _ _ hq h
    cases md with
    | false =>
      obtain ⟨m, K, R, rfl, h2, h3⟩ := dT_cat.1 h
      obtain ⟨h4, h5⟩ := dT_sm hN r false _ _ _ _ hq h3
      obtain ⟨h6, h7⟩ := h1 _ _ _ (Nat.le_trans h4 hq) h2
      exact ⟨Nat.le_trans h6 h4, by omega, by omega, h7, h5⟩
    | true =>
      rcases dT_alt.1 h with ⟨K, rfl, h2⟩ | h2
      · obtain ⟨h6, h7⟩ := h1 _ _ _ hq h2
        exact ⟨h6, by omega, by omega, h7, trivial⟩
      · exact dT_sm hN r true _ _ _ _ hq h2
theorem bt_wrap {a p q : Nat} {K K' : TF} : bt (.nd a p q K .nil) (.nd a p q K' .nil) = bt K K' := by
  by_cases h : bt K K' = 0
  · simp [bt, h]
  · exact bt_kid h
theorem bt_wrap2 {a p q a' p' q' : Nat} {K K' : TF} (h1 : a = a') (h2 : p = p') (h3 : q = q') : bt (.nd a p q K .nil) (.nd a' p' q' K' .nil) = bt K K' := by subst h1; subst h2; subst h3; exact bt_wrap
theorem PreC.make {w0 w : World} {K : CntE} {H R : Hp} {o : Obj} (st : St w0 w [] H) (hpk : Pick H [(K.bC, o)] R) (h1 : Rd En w0 K.vre K.re) (h2 : Rd Eb w0 K.vtx K.tx) : PreC K [] w := by
  have hs : HIn [(K.bC, o)] H := fun p h => hpk.perm.mem_iff.2 (List.mem_append.2 (.inl h))
  exact ⟨(RdK.old (κ := ⟨0, [], w0, []⟩) (H := H) h1 .nil).out w st, (RdK.old (κ := ⟨0, [], w0, []⟩) (H := H) h2 .nil).out w st, st.apart_old hs h1 (by decide), st.apart_old hs h2 (by decide), Bears.nil, by simp [keys]⟩
/-- rows that read as trees, apart from some blocks -/
def TieM (M : List Nat) (W : World) : TF → List Rw → Prop
  | .nil, xs => xs = []
  | .nd a p q ks r, xs => ∃ x xs', xs = x :: xs' ∧ x.a = a ∧ x.p = p ∧ x.q = q ∧ (∃ ys, x.kn = ys.length ∧ Rd Erw W x.kv ys ∧ Apart M x.kv ∧ TieM M W ks ys) ∧ TieM M W r xs'
def KidM (M : List Nat) (W : World) (x : Rw) (ks : TF) : Prop := ∃ ys, x.kn = ys.length ∧ Rd Erw W x.kv ys ∧ Apart M x.kv ∧ TieM M W ks ys
theorem TieM.num {M : List Nat} {W : World} : ∀ {T : TF} {xs : List Rw}, TieM M W T xs → xs.length = T.num
  | .nil, xs, h => by rw [show xs = [] from h]; rfl
  | .nd a p q ks r, xs, ⟨x, xs', e, _, _, _, _, h⟩ => by rw [e, List.length_cons, TieM.num h, TF.num]
theorem Tie.apart {w0 w : World} {H S : Hp} (st : St w0 w [] H) (hs : HIn S H) : ∀ {T : TF} {xs : List Rw}, Tie w0 T xs → TieM (keys S) w T xs
  | .nil, xs, h => h
  | .nd a p q ks r, xs, ⟨x, xs', e, h1, h2, h3, ⟨ys, hn, hr, hk⟩, h⟩ => ⟨x, xs', e, h1, h2, h3, ⟨ys, hn, (RdK.old (κ := ⟨0, [], w0, []⟩) (H := H) hr .nil).out w st, by rw [Rw.kv, hn] at hr ⊢; exact st.apart_old hs hr (by decide), Tie.apart st hs hk⟩, Tie.apart st hs h⟩
theorem KidT.apart {w0 w : World} {H S : Hp} (st : St w0 w [] H) (hs : HIn S H) {x : Rw} {T : TF} (h : KidT w0 x T) : KidM (keys S) w x T := by
  obtain ⟨ys, hn, hr, hk⟩ := h
  exact ⟨ys, hn, (RdK.old (κ := ⟨0, [], w0, []⟩) (H := H) hr .nil).out w st, by rw [Rw.kv, hn] at hr ⊢; exact st.apart_old hs hr (by decide), Tie.apart st hs hk⟩
theorem TieM.sub {w0 w : World} {M : List Nat} {H S : Hp} (st : St w0 w M H) (hs : HIn S H) : ∀ {T : TF} {xs : List Rw}, TieM M w0 T xs → TieM (keys S) w T xs
  | .nil, xs, h => h
  | .nd a p q ks r, xs, ⟨x, xs', e, h1, h2, h3, ⟨ys, hn, hr, ha, hk⟩, h⟩ => ⟨x, xs', e, h1, h2, h3, ⟨ys, hn, (RdK.old (κ := ⟨0, [], w0, M⟩) (H := H) hr ha).out w st, by rw [Rw.kv, hn] at hr ha ⊢; exact st.apart_M hs hr ha (by decide), TieM.sub st hs hk⟩, TieM.sub st hs h⟩
theorem KidM.sub {w0 w : World} {M : List Nat} {H S : Hp} (st : St w0 w M H) (hs : HIn S H) {x : Rw} {T : TF} (h : KidM M w0 x T) : KidM (keys S) w x T := by
  obtain ⟨ys, hn, hr, ha, hk⟩ := h
  exact ⟨ys, hn, (RdK.old (κ := ⟨0, [], w0, M⟩) (H := H) hr ha).out w st, by rw [Rw.kv, hn] at hr ha ⊢; exact st.apart_M hs hr ha (by decide), TieM.sub st hs hk⟩
theorem Row.kid {W : World} {x : Rw} {a p q : Nat} {K : TF} (h : Row W x (.nd a p q K .nil)) : KidT W x K := by
  obtain ⟨ks, e, hk⟩ := h
  cases e; exact hk
theorem Row.nd {W : World} {x : Rw} {T : TF} (h : Row W x T) : ∃ K, T = .nd x.a x.p x.q K .nil := by
  obtain ⟨ks, e, _⟩ := h
  exact ⟨ks, e⟩
/-- what a look at the best one so far leaves -/
theorem best_step {us : List TF} {T0 : TF} {j0 i jb : Nat} {Ti Tb : TF} (hT : ∀ T ∈ us, T = T0 ∨ (bt T0 T = 1 ∧ bt T T0 = -1)) (h0 : us[j0]? = some T0) (hi : us[i]? = some Ti) (hb : us[jb]? = some Tb) (hI : j0 < i → us[jb]? = some T0) :
    (bt Ti Tb > 0 → (j0 < i + 1 → us[i]? = some T0)) ∧ (¬ bt Ti Tb > 0 → (j0 < i + 1 → us[jb]? = some T0)) := by
  have hmi := List.mem_of_getElem? hi
  have hmb := List.mem_of_getElem? hb
  constructor
  · intro hg hj
    by_cases e : j0 < i
    · have h1 := hI e
      rw [hb] at h1; cases h1
      rcases hT Ti hmi with rfl | ⟨_, h2⟩
      · rw [bt_self] at hg; omega
      · omega
    · obtain rfl : j0 = i := by omega
      exact h0
  · intro hg hj
    by_cases e : j0 < i
    · exact hI e
    · obtain rfl : j0 = i := by omega
      rw [h0] at hi; cases hi
      rcases hT Tb hmb with rfl | ⟨h2, _⟩
      · exact hb
      · omega
/-- a list of nodes, apart from some blocks -/
structure ReM (re : List Nd) (v : Value) (M : List Nat) (W : World) : Prop where
  rd : Rd En W v re
  ap : Apart M v
theorem ReM.sub {w0 w : World} {M : List Nat} {H S : Hp} {re : List Nd} {a : Option Addr} {c : Nat} (h : ReM re (.slice a re.length c) M w0) (st : St w0 w M H) (hs : HIn S H) : ReM re (.slice a re.length c) (keys S) w :=
  ⟨(RdK.old (κ := ⟨0, [], w0, M⟩) (H := H) h.rd h.ap).out w st, st.apart_M hs h.rd h.ap (by decide)⟩
theorem ReM.make {w0 w : World} {H S : Hp} {re : List Nd} {a : Option Addr} {c : Nat} (h : Rd En w0 (.slice a re.length c) re) (st : St w0 w [] H) (hs : HIn S H) : ReM re (.slice a re.length c) (keys S) w :=
  ⟨(RdK.old (κ := ⟨0, [], w0, []⟩) (H := H) h .nil).out w st, st.apart_old hs h (by decide)⟩
theorem EnvW.make2 {w0 w : World} {K : WalkE} {M : List Nat} {H S R : Hp} {t1 : Nat} (st : St w0 w M H) (hpk : Pick H S R) (h1 : ReM K.re K.vre M w0) (h2 : K.tx = [] ∧ K.ta = none ∧ K.tc = 0) (m1 : (K.bW, .cells K.cells.toArray t1 (0, 0)) ∈ R) : EnvW w K (keys S) := by
  have st' := st.perm hpk.perm
  have hs : HIn S H := fun p h => hpk.perm.mem_iff.2 (List.mem_append.2 (.inl h))
  have h3 := h1.sub st hs
  obtain ⟨e1, e2, e3⟩ := h2
  have ev : K.vtx = .slice none 0 0 := by simp [WalkE.vtx, e1, e2, e3]
  refine ⟨(RdPK.own (κ := ⟨0, [], w0, M⟩) (List.mem_append.2 (.inr m1))).out w st', h3.rd, by rw [ev, e1]; exact Rd.nil Eb w, St.ne st hpk m1, h3.ap, fun a n c e => by rw [ev] at e; cases e⟩
end Go.HL.Kl.Mc
