/- Part of the proofs over this seat: see the text that holds the theorem. Conditions: each theorem bears its own. -/
import Derived.Test.YtopmnmigpbdddaaGreatDoorHTZ
import Derived.Test.YtopmnmigpbdddaaGreatDoorZE3Z
import Derived.Test.YtopmnmigpbdddaaGreatDoorMT3Z
import Derived.Test.YtopmnmigpbdddaaGreatDoorHMZ
namespace Go.Proofs.YtopmnmigpbdddaaGreatDoor
open Go Go.HL Go.Proofs Go.HL.Kl Go.HL.Kl.Mc Go.HL.Kl.Mc.AskE
set_option maxHeartbeats 1000000 in
theorem node_clo (K : AskE) (hK : K.ok) (x : Nd) (ks : F) (i i1 p q : Nat) (es : List Me) (c : Nat) (hp : Part K.re (.nd x ks .nil) i i1) (hpq : p ≤ q) (hq : q ≤ K.tx.length) (hes : MapOk K.tx K.re es) (ihN : x.op = 7 → ∀ y js, ks = .nd y js .nil → NodeK Tryz.prog K y js) (h4 : x.op = 4 → RestK Tryz.prog K ⟨i, (i + 1 : Nat), p, q⟩) (h5 : x.op = 5 → RestK Tryz.prog K ⟨i, -1, p, q⟩) (h6 : x.op = 6 → RestK Tryz.prog K ⟨i, (0 : Nat), p, q⟩) : HL.Fn Tryz.prog 124 [.int .i64 i, .int .i64 p, .int .i64 q, pt K.bRe, pt K.bTx, pt K.bA] (fun W => Env W K [K.bM]) [(K.bM, mpO es c)] (AnsK K (der1 K.tx x ks p q)) := by
  refine fn_of Tryz.func124 rfl rfl rfl fun w0 hw => ?_
  have hsl := hw.d1.sl
  have hst := hw.d2.sl
  have hse := hw.d3.sl
  have htl := hK.tx
  have hrl := hK.len
  obtain rfl : i1 = i + 1 + ks.size := by have := hp.len; simp only [F.size] at this; omega
  obtain ⟨hx, hpk, _⟩ := hp.head
  have hilt := (List.getElem?_eq_some_iff.1 hx).1
  have hxm := List.mem_of_getElem? hx
  have hox := hK.rng x hxm
  have hx8 := hK.no8 x hxm
  have hok : ndOk x = true := hp.wf.1
  have hop : 1 ≤ x.op ∧ x.op ≤ 8 := (flds_iff.1 (by simp only [ndOk, Bool.and_eq_true] at hok; exact hok.1)).1
  have hpkl := hpk.le
  have hei := hK.ends.2 i x ks .nil _ (Nat.zero_le _) hp
  have hell := hK.ends.1
  rw [hell] at hse
  refine c_seq fun _ hK1 => ?_; refine c_region ?_; refine o_step rfl (s_assign rfl) ?_; refine o_nil ?_; refine x_then (hK1 _ _ ?_); refine c_seq fun _ hK2 => ?_; refine c_seq fun _ hK3 => ?_; refine c_region ?_; refine o_step rfl (s_ld rfl ((RdPK.old hw.p1 hw.n1).cel (j := 0) rfl rfl)) ?_; refine o_step rfl (s_move rfl) ?_; refine o_step rfl (s_idx rfl rfl hsl (by omega)) ?_; refine o_step rfl (s_ldB rfl ((RdK.old hw.d1 hw.a1).lds i hx rfl) (by rfl)) ?_; refine o_alloc (l := En zN) (by rw [En_zero]; rfl) rfl fun b10 => ?_; refine o_stW rfl rfl upA lnA lnA onA ?_; refine o_nil ?_; refine x_then (hK3 _ _ ?_); refine c_seq fun _ hK4 => ?_; refine c_region ?_; refine o_step rfl (s_field rfl rfl (by decide)) ?_; refine o_step rfl (s_ld rfl (.own meA rfl)) ?_; refine o_nil ?_; refine x_then (hK4 _ _ ?_); refine c_block ?_; refine c_seq fun _ hK5 => ?_; refine c_region ?_
  by_cases o1 : x.op = 1
  ·
   refine o_step rfl (step_cast (v' := .bool true) (s_eql rfl rfl) (by rw [decide_eq_true o1])) ?_; refine o_step rfl (s_assign rfl) ?_; refine o_nil ?_; refine x_then (hK5 _ _ ?_); refine c_true rfl ?_; refine c_seq fun _ hK6 => ?_; refine c_drawE ([(b10, .cells (En x).toArray 108 (0, 0))]) (fun i => false) ?_; refine e_tk 0 rfl hzB (s_move rfl) ?_; refine e_tk 1 rfl hzB (s_move rfl) ?_; refine e_tk 2 rfl hzB (s_add rfl rfl (by omega)) ?_
   by_cases hqp : (q : Int) = (p : Int) + 1
   ·
    obtain ⟨b, hb⟩ : ∃ b, K.tx[p]? = some b := ⟨_, List.getElem?_eq_getElem (by omega)⟩
    refine e_tk 3 rfl hzB (step_cast (v' := .bool true) (s_eql rfl rfl) (by rw [decide_eq_true (by omega)])) ?_; refine e_tk 4 rfl hzB (s_move rfl) ?_; refine e_tg 5 rfl hzB (s_field rfl rfl (by decide)) ?_; refine e_tg 6 rfl hzB (s_ldB rfl (RdPK.cels (RdPK.own' (cs := Ec x.set) meA nd_set)) (Ec_lenM _)) ?_; refine e_tg 7 rfl hzB (s_ld rfl ((RdPK.old hw.p2 hw.n2).cel (j := 0) rfl rfl)) ?_; refine e_tg 8 rfl hzB (s_move rfl) ?_; refine e_tg 9 rfl hzB (s_idx rfl rfl hst (by omega)) ?_; refine e_tg 10 rfl hzB (s_ld rfl ((RdK.old hw.d2 hw.a2).ld p 0 hb rfl (by decide) (by omega))) ?_; refine e_one 11 rfl (by kernel_rfl) ?_; refine o_yes rfl rfl ?_; refine o_callP (has_fn x.set b.toNat b.toNat_lt) rfl rfl rfl (fun _ _ => trivial) (fun v30 hv30 => ?_); subst hv30
    refine o_nil ?_; refine x_oneS hzB ?_; refine e_tk 12 rfl hzB (s_pick_t rfl rfl) ?_; refine e_tk 13 rfl hzB (s_assign rfl) ?_; refine e_done (by kernel_rfl) ?_; refine x_then (hK6 _ _ ?_); refine c_ret ?_; refine x_block_ret (x_then_ret (?_))
    refine x_sub (Sub.refl _) (H' := [(K.bM, mpO es c)]) hzB ?_; exact x_ret rfl (.tmp rfl (.nil)) (⟨es, c, congrArg Value.bool (dQ_b (by rw [der1_1 o1]; exact ⟨fun h => ⟨by omega, b, hb, h⟩, fun ⟨_, b2, hb2, h⟩ => by rw [hb] at hb2; cases hb2; exact h⟩)).symm, rfl, hes⟩)
   ·
    refine e_tk 3 rfl hzB (step_cast (v' := .bool false) (s_eql rfl rfl) (by rw [decide_eq_false (by omega)])) ?_; refine e_tk 4 rfl hzB (s_move rfl) ?_; refine e_sk 5 rfl ?_; refine e_sk 6 rfl ?_; refine e_sk 7 rfl ?_; refine e_sk 8 rfl ?_; refine e_sk 9 rfl ?_; refine e_sk 10 rfl ?_; refine e_one 11 rfl (by kernel_rfl) ?_; refine o_no rfl rfl rfl rfl ?_; refine o_nil ?_; refine x_oneS hzB ?_; refine e_tk 12 rfl hzB (s_pick_f rfl rfl) ?_; refine e_tk 13 rfl hzB (s_assign rfl) ?_; refine e_done (by kernel_rfl) ?_; refine x_then (hK6 _ _ ?_); refine c_ret ?_; refine x_block_ret (x_then_ret (?_))
    refine x_sub (Sub.refl _) (H' := [(K.bM, mpO es c)]) hzB ?_; exact x_ret rfl (.tmp rfl (.nil)) (⟨es, c, congrArg Value.bool (dQ_b (by rw [der1_1 o1]; exact ⟨fun h => (by cases h), fun h => absurd h.1 (by omega)⟩)).symm, rfl, hes⟩)
  ·
   refine o_step rfl (step_cast (v' := .bool false) (s_eql rfl rfl) (by rw [decide_eq_false o1])) ?_; refine o_step rfl (s_assign rfl) ?_; refine o_nil ?_; refine x_then (hK5 _ _ ?_); refine c_false rfl ?_; refine c_seq fun _ hK7 => ?_; refine c_region ?_
   by_cases o2 : x.op = 2
   ·
    refine o_step rfl (step_cast (v' := .bool true) (s_eql rfl rfl) (by rw [decide_eq_true o2])) ?_; refine o_step rfl (s_assign rfl) ?_; refine o_nil ?_; refine x_then (hK7 _ _ ?_); refine c_true rfl ?_; refine c_seq fun _ hK8 => ?_; refine c_region ?_; refine o_step rfl (s_move rfl) ?_
    by_cases hp0 : (p : Int) = 0
    ·
     refine o_step rfl (step_cast (v' := .bool true) (s_eql rfl rfl) (by rw [decide_eq_true (by omega)])) ?_; refine o_step rfl (s_move rfl) ?_; refine o_yes rfl rfl ?_; refine o_step rfl (s_move rfl) ?_; refine o_yes rfl rfl ?_
     by_cases hq0 : (q : Int) = 0
     ·
      refine o_step rfl (step_cast (v' := .bool true) (s_eql rfl rfl) (by rw [decide_eq_true (by omega)])) ?_; refine o_step rfl (s_pick_t rfl rfl) ?_; refine o_step rfl (s_assign rfl) ?_; refine o_nil ?_; refine x_then (hK8 _ _ ?_); refine c_ret ?_; refine x_block_ret (x_then_ret (?_))
      refine x_sub (Sub.refl _) (H' := [(K.bM, mpO es c)]) hzB ?_; exact x_ret rfl (.tmp rfl (.nil)) (⟨es, c, congrArg Value.bool (dQ_b (by rw [der1_2 o2]; exact ⟨fun _ => by omega, fun _ => rfl⟩)).symm, rfl, hes⟩)
     ·
      refine o_step rfl (step_cast (v' := .bool false) (s_eql rfl rfl) (by rw [decide_eq_false (by omega)])) ?_; refine o_step rfl (s_pick_t rfl rfl) ?_; refine o_step rfl (s_assign rfl) ?_; refine o_nil ?_; refine x_then (hK8 _ _ ?_); refine c_ret ?_; refine x_block_ret (x_then_ret (?_))
      refine x_sub (Sub.refl _) (H' := [(K.bM, mpO es c)]) hzB ?_; exact x_ret rfl (.tmp rfl (.nil)) (⟨es, c, congrArg Value.bool (dQ_b (by rw [der1_2 o2]; exact ⟨fun h => (by cases h), fun h => absurd h (by omega)⟩)).symm, rfl, hes⟩)
    ·
     refine o_step rfl (step_cast (v' := .bool false) (s_eql rfl rfl) (by rw [decide_eq_false (by omega)])) ?_; refine o_step rfl (s_move rfl) ?_; refine o_no rfl rfl rfl rfl ?_; refine o_no rfl rfl rfl rfl ?_; refine o_step rfl (s_pick_f rfl rfl) ?_; refine o_step rfl (s_assign rfl) ?_; refine o_nil ?_; refine x_then (hK8 _ _ ?_); refine c_ret ?_; refine x_block_ret (x_then_ret (?_))
     refine x_sub (Sub.refl _) (H' := [(K.bM, mpO es c)]) hzB ?_; exact x_ret rfl (.tmp rfl (.nil)) (⟨es, c, congrArg Value.bool (dQ_b (by rw [der1_2 o2]; exact ⟨fun h => (by cases h), fun h => absurd h (by omega)⟩)).symm, rfl, hes⟩)
   ·
    refine o_step rfl (step_cast (v' := .bool false) (s_eql rfl rfl) (by rw [decide_eq_false o2])) ?_; refine o_step rfl (s_assign rfl) ?_; refine o_nil ?_; refine x_then (hK7 _ _ ?_); refine c_false rfl ?_; refine c_seq fun _ hK9 => ?_; refine c_region ?_
    by_cases o3 : x.op = 3
    ·
     refine o_step rfl (step_cast (v' := .bool true) (s_eql rfl rfl) (by rw [decide_eq_true o3])) ?_; refine o_step rfl (s_assign rfl) ?_; refine o_nil ?_; refine x_then (hK9 _ _ ?_); refine c_true rfl ?_; refine c_seq fun _ hK10 => ?_; refine c_region ?_; refine o_step rfl (s_move rfl) ?_; refine o_step rfl (s_ld rfl ((RdPK.old hw.p2 hw.n2).cel (j := 0) rfl rfl)) ?_; refine o_step rfl (s_len rfl) ?_
     by_cases hpl : (p : Int) = K.tx.length
     ·
      refine o_step rfl (step_cast (v' := .bool true) (s_eql rfl rfl) (by rw [decide_eq_true (by omega)])) ?_; refine o_step rfl (s_move rfl) ?_; refine o_yes rfl rfl ?_; refine o_step rfl (s_move rfl) ?_; refine o_yes rfl rfl ?_; refine o_step rfl (s_move rfl) ?_; refine o_yes rfl rfl ?_
      by_cases hqp : (q : Int) = p
      ·
       refine o_step rfl (step_cast (v' := .bool true) (s_eql rfl rfl) (by rw [decide_eq_true (by omega)])) ?_; refine o_step rfl (s_pick_t rfl rfl) ?_; refine o_step rfl (s_assign rfl) ?_; refine o_nil ?_; refine x_then (hK10 _ _ ?_); refine c_ret ?_; refine x_block_ret (x_then_ret (?_))
       refine x_sub (Sub.refl _) (H' := [(K.bM, mpO es c)]) hzB ?_; exact x_ret rfl (.tmp rfl (.nil)) (⟨es, c, congrArg Value.bool (dQ_b (by rw [der1_3 o3]; exact ⟨fun _ => by omega, fun _ => rfl⟩)).symm, rfl, hes⟩)
      ·
       refine o_step rfl (step_cast (v' := .bool false) (s_eql rfl rfl) (by rw [decide_eq_false (by omega)])) ?_; refine o_step rfl (s_pick_t rfl rfl) ?_; refine o_step rfl (s_assign rfl) ?_; refine o_nil ?_; refine x_then (hK10 _ _ ?_); refine c_ret ?_; refine x_block_ret (x_then_ret (?_))
       refine x_sub (Sub.refl _) (H' := [(K.bM, mpO es c)]) hzB ?_; exact x_ret rfl (.tmp rfl (.nil)) (⟨es, c, congrArg Value.bool (dQ_b (by rw [der1_3 o3]; exact ⟨fun h => (by cases h), fun h => absurd h (by omega)⟩)).symm, rfl, hes⟩)
     ·
      refine o_step rfl (step_cast (v' := .bool false) (s_eql rfl rfl) (by rw [decide_eq_false (by omega)])) ?_; refine o_step rfl (s_move rfl) ?_; refine o_no rfl rfl rfl rfl ?_; refine o_no rfl rfl rfl rfl ?_; refine o_no rfl rfl rfl rfl ?_; refine o_step rfl (s_pick_f rfl rfl) ?_; refine o_step rfl (s_assign rfl) ?_; refine o_nil ?_; refine x_then (hK10 _ _ ?_); refine c_ret ?_; refine x_block_ret (x_then_ret (?_))
      refine x_sub (Sub.refl _) (H' := [(K.bM, mpO es c)]) hzB ?_; exact x_ret rfl (.tmp rfl (.nil)) (⟨es, c, congrArg Value.bool (dQ_b (by rw [der1_3 o3]; exact ⟨fun h => (by cases h), fun h => absurd h (by omega)⟩)).symm, rfl, hes⟩)
    ·
     refine o_step rfl (step_cast (v' := .bool false) (s_eql rfl rfl) (by rw [decide_eq_false o3])) ?_; refine o_step rfl (s_assign rfl) ?_; refine o_nil ?_; refine x_then (hK9 _ _ ?_); refine c_false rfl ?_; refine c_seq fun _ hK11 => ?_; refine c_region ?_
     by_cases o7 : x.op = 7
     ·
      refine o_step rfl (step_cast (v' := .bool true) (s_eql rfl rfl) (by rw [decide_eq_true o7])) ?_; refine o_step rfl (s_assign rfl) ?_; refine o_nil ?_; refine x_then (hK11 _ _ ?_); refine c_true rfl ?_; refine c_seq fun _ hK12 => ?_; refine c_region ?_; refine o_step rfl (s_ld rfl ((RdPK.old hw.p3 hw.n3).cel (j := 0) rfl rfl)) ?_; refine o_step rfl (s_nil rfl) ?_; refine o_step rfl (s_field rfl rfl (by decide)) ?_; refine o_step rfl (s_ld rfl ((RdPK.old hw.p4 hw.n4).cel (j := 4) rfl rfl)) ?_; refine o_step rfl (s_move rfl) ?_; refine o_step rfl (s_add rfl rfl (by omega)) ?_; refine o_step rfl (s_move rfl) ?_; refine o_step rfl (s_move rfl) ?_
      obtain ⟨y, js, rfl⟩ := one_kid hp.wf (.inr o7)
      refine o_callC (us := []) (vs := [_, _, _]) (cs := [pt K.bRe, pt K.bTx, pt K.bA]) (ihN o7 y js rfl (i + 1) _ p q es c hpk hpq hq hes) rfl rfl rfl pkA (fun w st => hw.out st (fun _ h => h)) (fun v61 S61 ⟨es61, c61, hv61, hS61, hm61⟩ => ?_); subst hv61
      subst hS61; refine o_step rfl (s_assign rfl) ?_; refine o_nil ?_; refine x_then (hK12 _ _ ?_); refine c_ret ?_; refine x_block_ret (x_then_ret (?_))
      refine x_sub (Sub.refl _) (H' := [(K.bM, mpO es61 c61)]) hzB ?_; exact x_ret rfl (.tmp rfl (.nil)) (⟨es61, c61, congrArg Value.bool (dQ_congr (der_one.symm.trans (der1_4 (.inr o7)).symm)), rfl, hm61⟩)
     ·
      refine o_step rfl (step_cast (v' := .bool false) (s_eql rfl rfl) (by rw [decide_eq_false o7])) ?_; refine o_step rfl (s_assign rfl) ?_; refine o_nil ?_; refine x_then (hK11 _ _ ?_); refine c_false rfl ?_; refine c_seq fun _ hK13 => ?_; refine c_region ?_
      by_cases o4 : x.op = 4
      ·
       refine o_step rfl (step_cast (v' := .bool true) (s_eql rfl rfl) (by rw [decide_eq_true o4])) ?_; refine o_step rfl (s_assign rfl) ?_; refine o_nil ?_; refine x_then (hK13 _ _ ?_); refine c_true rfl ?_; refine c_seq fun _ hK14 => ?_; refine c_region ?_; refine o_step rfl (s_ld rfl ((RdPK.old hw.p3 hw.n3).cel (j := 0) rfl rfl)) ?_; refine o_step rfl (s_nil rfl) ?_; refine o_step rfl (s_field rfl rfl (by decide)) ?_; refine o_step rfl (s_ld rfl ((RdPK.old hw.p4 hw.n4).cel (j := 5) rfl rfl)) ?_; refine o_step rfl (s_move rfl) ?_; refine o_step rfl (s_move rfl) ?_; refine o_step rfl (s_add rfl rfl (by omega)) ?_; refine o_step rfl (s_move rfl) ?_; refine o_step rfl (s_move rfl) ?_; refine o_step rfl (s_build (cs := [_, _, _, _]) (vs := [_, _, _, _]) rfl rfl (.cons rfl rfl rfl rfl rfl (.cons rfl rfl rfl rfl rfl (.cons rfl rfl rfl rfl rfl (.cons rfl rfl rfl rfl rfl (.nil)))))) ?_; refine o_callC (us := []) (vs := [_]) (cs := [pt K.bA]) (h4 o4 es c hes) rfl rfl rfl pkA (fun w st => hw.out st (fun _ h => h)) (fun v74 S74 ⟨es74, c74, hv74, hS74, hm74⟩ => ?_)
       subst hv74; subst hS74
       refine o_step rfl (s_assign rfl) ?_; refine o_nil ?_; refine x_then (hK14 _ _ ?_); refine c_ret ?_; refine x_block_ret (x_then_ret (?_))
       refine x_sub (Sub.refl _) (H' := [(K.bM, mpO es74 c74)]) hzB ?_; exact x_ret rfl (.tmp rfl (.nil)) (⟨es74, c74, congrArg Value.bool (dQ_congr ((Qry_cat hp o4 hpk).trans (der1_4 (.inl o4)).symm)), rfl, hm74⟩)
      ·
       refine o_step rfl (step_cast (v' := .bool false) (s_eql rfl rfl) (by rw [decide_eq_false o4])) ?_; refine o_step rfl (s_assign rfl) ?_; refine o_nil ?_; refine x_then (hK13 _ _ ?_); refine c_false rfl ?_; refine c_seq fun _ hK15 => ?_; refine c_region ?_
       by_cases o5 : x.op = 5
       ·
        refine o_step rfl (step_cast (v' := .bool true) (s_eql rfl rfl) (by rw [decide_eq_true o5])) ?_; refine o_step rfl (s_assign rfl) ?_; refine o_nil ?_; refine x_then (hK15 _ _ ?_); refine c_true rfl ?_; refine c_seq fun _ hK16 => ?_; refine c_region ?_; refine o_step rfl (s_ld rfl ((RdPK.old hw.p3 hw.n3).cel (j := 0) rfl rfl)) ?_; refine o_step rfl (s_nil rfl) ?_; refine o_step rfl (s_field rfl rfl (by decide)) ?_; refine o_step rfl (s_ld rfl ((RdPK.old hw.p4 hw.n4).cel (j := 5) rfl rfl)) ?_; refine o_step rfl (s_move rfl) ?_; refine o_step rfl (s_move rfl) ?_; refine o_step rfl (s_move rfl) ?_; refine o_step rfl (s_build (cs := [_, _, _, _]) (vs := [_, _, _, _]) rfl rfl (.cons rfl rfl rfl rfl rfl (.cons rfl rfl rfl rfl rfl (.cons rfl rfl rfl rfl rfl (.cons rfl rfl rfl rfl rfl (.nil)))))) ?_; refine o_callC (us := []) (vs := [_]) (cs := [pt K.bA]) (h5 o5 es c hes) rfl rfl rfl pkA (fun w st => hw.out st (fun _ h => h)) (fun v85 S85 ⟨es85, c85, hv85, hS85, hm85⟩ => ?_)
        subst hv85; subst hS85
        refine o_step rfl (s_assign rfl) ?_; refine o_nil ?_; refine x_then (hK16 _ _ ?_); refine c_ret ?_; refine x_block_ret (x_then_ret (?_))
        refine x_sub (Sub.refl _) (H' := [(K.bM, mpO es85 c85)]) hzB ?_; exact x_ret rfl (.tmp rfl (.nil)) (⟨es85, c85, congrArg Value.bool (dQ_congr ((Qry_alt hp o5).trans (der1_5 o5).symm)), rfl, hm85⟩)
       ·
        refine o_step rfl (step_cast (v' := .bool false) (s_eql rfl rfl) (by rw [decide_eq_false o5])) ?_; refine o_step rfl (s_assign rfl) ?_; refine o_nil ?_; refine x_then (hK15 _ _ ?_); refine c_false rfl ?_; refine c_skip ?_; refine x_block ?_; refine x_then (hK2 _ _ ?_); refine c_seq fun _ hK17 => ?_; refine c_region ?_; refine o_step rfl (s_ld rfl ((RdPK.old hw.p3 hw.n3).cel (j := 0) rfl rfl)) ?_; refine o_step rfl (s_nil rfl) ?_; refine o_step rfl (s_field rfl rfl (by decide)) ?_; refine o_step rfl (s_ld rfl ((RdPK.old hw.p4 hw.n4).cel (j := 5) rfl rfl)) ?_; refine o_step rfl (s_move rfl) ?_; refine o_step rfl (s_move rfl) ?_; refine o_step rfl (s_move rfl) ?_; refine o_step rfl (s_build (cs := [_, _, _, _]) (vs := [_, _, _, _]) rfl rfl (.cons rfl rfl rfl rfl rfl (.cons rfl rfl rfl rfl rfl (.cons rfl rfl rfl rfl rfl (.cons rfl rfl rfl rfl rfl (.nil)))))) ?_
        have o6 : x.op = 6 := by omega
        refine o_callC (us := []) (vs := [_]) (cs := [pt K.bA]) (h6 o6 es c hes) rfl rfl rfl pkA (fun w st => hw.out st (fun _ h => h)) (fun v94 S94 ⟨es94, c94, hv94, hS94, hm94⟩ => ?_); subst hv94
        subst hS94; refine o_step rfl (s_assign rfl) ?_; refine o_nil ?_; refine x_then (hK17 _ _ ?_); refine c_ret ?_; refine ?_; refine x_sub (Sub.refl _) (H' := [(K.bM, mpO es94 c94)]) hzB ?_; exact x_ret rfl (.tmp rfl (.nil)) (⟨es94, c94, congrArg Value.bool (dQ_congr ((Qry_rep hp o6).trans (der1_6 o6).symm)), rfl, hm94⟩)
end Go.Proofs.YtopmnmigpbdddaaGreatDoor

/- Part of the proofs over this seat: see the text that holds the theorem. Conditions: each theorem bears its own. -/
namespace Go.Proofs.YtopmnmigpbdddaaGreatDoor
open Go Go.HL Go.Proofs Go.HL.Kl Go.HL.Kl.Mc Go.HL.Kl.Mc.AskE
set_option maxHeartbeats 1000000 in
theorem rest_clo (K : AskE) (k : Ky) (es : List Me) (c : Nat) (hes : MapOk K.tx K.re es) (hF : FindK Tryz.prog K 126 k) : HL.Fn Tryz.prog 125 [.agg (Ek k).toArray, pt K.bA] (fun W => Env W K [K.bM]) [(K.bM, mpO es c)] (AnsK K (Qry K.tx K.re k)) := by
  refine fn_of Tryz.func125 rfl rfl rfl fun w0 hw => ?_; refine c_seq fun _ hK1 => ?_; refine c_region ?_; refine o_box rfl rfl rfl fun b2 => ?_; refine o_step rfl (s_assign rfl) ?_; refine o_nil ?_; refine x_then (hK1 _ _ ?_); refine c_seq fun _ hK2 => ?_; refine c_seq fun _ hK3 => ?_; refine c_drawE ([(b2, .cells (Ek k).toArray 184 (0, 0)), (K.bM, mpO es c)]) (fun i => false) ?_; refine e_tk 0 rfl hzB (s_ld rfl ((RdPK.old hw.p3 hw.n3).cel (j := 0) rfl rfl)) ?_; refine e_tk 1 rfl hzB (s_nil rfl) ?_; refine e_tk 2 rfl hzB (s_field rfl rfl (by decide)) ?_; refine e_tk 3 rfl hzB (s_ld rfl ((RdPK.old hw.p4 hw.n4).cel (j := 3) rfl rfl)) ?_; refine e_tk 4 rfl hzB (s_ldB rfl (RdPK.cels (.own meA)) lnA) ?_; refine e_tk 5 rfl hzB (s_look rfl rfl meA) ?_; refine e_tk 6 rfl hzB (s_assign rfl) ?_; refine e_done (by kernel_rfl) ?_; refine x_then (hK3 _ _ ?_); refine c_seq fun _ hK4 => ?_; refine c_region ?_
  refine o_step rfl (s_move rfl) ?_
  by_cases h0 : getK es k ≠ 0
  ·
   refine o_step rfl (s_neq_t rfl rfl h0) ?_; refine o_nil ?_; refine x_then (hK4 _ _ ?_); refine c_true rfl ?_; refine c_seq fun _ hK5 => ?_; refine c_region ?_; refine o_step rfl (s_move rfl) ?_; refine o_step rfl (s_gtr rfl rfl) ?_; refine o_step rfl (s_assign rfl) ?_; refine o_nil ?_; refine x_then (hK5 _ _ ?_); refine c_ret ?_; refine x_then_ret (?_); refine x_sub (Sub.refl _) (H' := [(K.bM, mpO es c)]) hzB ?_; exact x_ret rfl (.tmp rfl (.nil)) (⟨es, c, congrArg Value.bool (hes.ans h0), rfl, hes⟩)
  ·
   refine o_step rfl (s_neq_f rfl rfl (Decidable.not_not.1 h0)) ?_; refine o_nil ?_; refine x_then (hK4 _ _ ?_); refine c_false rfl ?_; refine c_skip ?_; refine x_then (hK2 _ _ ?_); refine c_seq fun _ hK6 => ?_; refine c_region ?_; refine o_step rfl (s_ld rfl ((RdPK.old hw.p3 hw.n3).cel (j := 0) rfl rfl)) ?_; refine o_step rfl (s_ldB rfl (RdPK.cels (.own meA)) lnA) ?_; refine o_call (hF es c hes) rfl rfl rfl pkA (fun w st => hw.out st (fun _ h => h)) (fun v18 S18 ⟨es18, c18, hv18, hS18, hm18⟩ => ?_); subst hv18
   subst hS18
   cases hb18 : dQ (Qry K.tx K.re k)
   ·
    refine o_step rfl (s_assign rfl) ?_; refine o_nil ?_; refine x_then (hK6 _ _ ?_); refine c_seq fun _ hK7 => ?_; refine c_drawE ([(b2, .cells (Ek k).toArray 184 (0, 0))]) (fun i => false) ?_; refine e_tk 0 rfl hzB (s_ld rfl ((RdPK.old hw.p3 hw.n3).cel (j := 0) rfl rfl)) ?_; refine e_tk 1 rfl hzB (s_nil rfl) ?_; refine e_tk 2 rfl hzB (s_field rfl rfl (by decide)) ?_; refine e_tk 3 rfl hzB (s_ld rfl ((RdPK.old hw.p4 hw.n4).cel (j := 3) rfl rfl)) ?_; refine e_tk 4 rfl hzB (s_ldB rfl (RdPK.cels (.own meA)) lnA) ?_; refine e_one 5 rfl (by kernel_rfl) ?_; refine o_mset rfl rfl rfl pkB fun esA cA hgA => ?_; refine o_nil ?_; refine x_oneS hzB ?_; refine e_done (by kernel_rfl) ?_; refine x_then (hK7 _ _ ?_); refine c_seq fun _ hK8 => ?_; refine c_seq fun _ hK9 => ?_; refine c_region ?_; refine o_step rfl (s_move rfl) ?_; refine o_nil ?_; refine x_then (hK9 _ _ ?_); refine c_false rfl ?_; refine c_skip ?_
    refine x_then (hK8 _ _ ?_); refine c_seq fun _ hK10 => ?_; refine c_region ?_; refine o_step rfl (s_move rfl) ?_; refine o_step rfl (s_assign rfl) ?_; refine o_nil ?_; refine x_then (hK10 _ _ ?_); refine c_ret ?_; refine ?_; refine x_sub (Sub.refl _) (H' := [(K.bM, mpO esA cA)]) hzB ?_; exact x_ret rfl (.tmp rfl (.nil)) (⟨esA, cA, congrArg Value.bool hb18.symm, rfl, hm18.no (fun h => by rw [dQ_t h] at hb18; cases hb18) hgA⟩)
   ·
    refine o_step rfl (s_assign rfl) ?_; refine o_nil ?_; refine x_then (hK6 _ _ ?_); refine c_seq fun _ hK11 => ?_; refine c_drawE ([(b2, .cells (Ek k).toArray 184 (0, 0))]) (fun i => false) ?_; refine e_tk 0 rfl hzB (s_ld rfl ((RdPK.old hw.p3 hw.n3).cel (j := 0) rfl rfl)) ?_; refine e_tk 1 rfl hzB (s_nil rfl) ?_; refine e_tk 2 rfl hzB (s_field rfl rfl (by decide)) ?_; refine e_tk 3 rfl hzB (s_ld rfl ((RdPK.old hw.p4 hw.n4).cel (j := 3) rfl rfl)) ?_; refine e_tk 4 rfl hzB (s_ldB rfl (RdPK.cels (.own meA)) lnA) ?_; refine e_one 5 rfl (by kernel_rfl) ?_; refine o_mset rfl rfl rfl pkB fun esA cA hgA => ?_; refine o_nil ?_; refine x_oneS hzB ?_; refine e_done (by kernel_rfl) ?_; refine x_then (hK11 _ _ ?_); refine c_seq fun _ hK12 => ?_; refine c_seq fun _ hK13 => ?_; refine c_region ?_; refine o_step rfl (s_move rfl) ?_; refine o_nil ?_; refine x_then (hK13 _ _ ?_); refine c_true rfl ?_; refine c_drawE ([(b2, .cells (Ek k).toArray 184 (0, 0))]) (fun i => false) ?_
    refine e_tk 0 rfl hzB (s_ld rfl ((RdPK.old hw.p3 hw.n3).cel (j := 0) rfl rfl)) ?_; refine e_tk 1 rfl hzB (s_nil rfl) ?_; refine e_tk 2 rfl hzB (s_field rfl rfl (by decide)) ?_; refine e_tk 3 rfl hzB (s_ld rfl ((RdPK.old hw.p4 hw.n4).cel (j := 3) rfl rfl)) ?_; refine e_tk 4 rfl hzB (s_ldB rfl (RdPK.cels (.own meA)) lnA) ?_; refine e_one 5 rfl (by kernel_rfl) ?_; refine o_mset rfl rfl rfl pkB fun esB cB hgB => ?_; refine o_nil ?_; refine x_oneS hzB ?_; refine e_done (by kernel_rfl) ?_; refine x_then (hK12 _ _ ?_); refine c_seq fun _ hK14 => ?_; refine c_region ?_; refine o_step rfl (s_move rfl) ?_; refine o_step rfl (s_assign rfl) ?_; refine o_nil ?_; refine x_then (hK14 _ _ ?_); refine c_ret ?_; refine ?_; refine x_sub (Sub.refl _) (H' := [(K.bM, mpO esB cB)]) hzB ?_; exact x_ret rfl (.tmp rfl (.nil)) (⟨esB, cB, congrArg Value.bool hb18.symm, rfl, hm18.yes (dQ_iff.1 hb18) hgA hgB⟩)

set_option maxHeartbeats 1000000 in
theorem find_alt (K : AskE) (hK : K.ok) (x : Nd) (ks : F) (i i1 p q : Nat) (es : List Me) (c : Nat) (hp : Part K.re (.nd x ks .nil) i i1) (hpq : p ≤ q) (hq : q ≤ K.tx.length) (hes : MapOk K.tx K.re es) (h5 : x.op = 5) (ihN : ∀ y js, js.size < ks.size → NodeK Tryz.prog K y js) : HL.Fn Tryz.prog 126 [pt K.bS, .agg (Ek (⟨i, -1, p, q⟩ : Ky)).toArray] (fun W => Env W K [K.bM]) [(K.bM, mpO es c)] (AnsK K (Qry K.tx K.re (⟨i, -1, p, q⟩ : Ky))) := by
  refine fn_of Tryz.func126 rfl rfl rfl fun w0 hw => ?_
  have hsl := hw.d1.sl
  have hst := hw.d2.sl
  have hse := hw.d3.sl
  have htl := hK.tx
  have hrl := hK.len
  obtain rfl : i1 = i + 1 + ks.size := by have := hp.len; simp only [F.size] at this; omega
  obtain ⟨hx, hpk, _⟩ := hp.head
  have hilt := (List.getElem?_eq_some_iff.1 hx).1
  have hxm := List.mem_of_getElem? hx
  have hox := hK.rng x hxm
  have hx8 := hK.no8 x hxm
  have hok : ndOk x = true := hp.wf.1
  have hop : 1 ≤ x.op ∧ x.op ≤ 8 := (flds_iff.1 (by simp only [ndOk, Bool.and_eq_true] at hok; exact hok.1)).1
  have hpkl := hpk.le
  have hei := hK.ends.2 i x ks .nil _ (Nat.zero_le _) hp
  have hell := hK.ends.1
  rw [hell] at hse
  refine c_seq fun _ hK1 => ?_; refine c_region ?_; refine o_box rfl rfl rfl fun b3 => ?_; refine o_step rfl (s_assign rfl) ?_; refine o_nil ?_; refine x_then (hK1 _ _ ?_); refine c_seq fun _ hK2 => ?_; refine c_drawE ([(b3, .cells (Ek (⟨i, -1, p, q⟩ : Ky)).toArray 184 (0, 0))]) (fun i => false) ?_; refine e_tk 0 rfl hzB (s_move rfl) ?_; refine e_tk 1 rfl hzB (s_nil rfl) ?_; refine e_tk 2 rfl hzB (s_field rfl rfl (by decide)) ?_; refine e_tk 3 rfl hzB (s_ld rfl ((RdPK.old hw.p4 hw.n4).cel (j := 0) rfl rfl)) ?_; refine e_tk 4 rfl hzB (s_field rfl rfl (by decide)) ?_; refine e_tk 5 rfl hzB (s_ld rfl ((.own meA rfl : Cel _ _ _ (.int .i64 (i : Int))))) ?_; refine e_tk 6 rfl hzB (s_idx rfl rfl hsl (by omega)) ?_; refine e_tk 7 rfl hzB (s_ldB rfl ((RdK.old hw.d1 hw.a1).lds i hx rfl) (by rfl)) ?_; refine e_one 8 rfl (by kernel_rfl) ?_; refine o_alloc (l := En zN) (by rw [En_zero]; rfl) rfl fun b5 => ?_
  refine o_nil ?_; refine x_oneS hzB ?_; refine e_one 9 rfl (by kernel_rfl) ?_; refine o_stW rfl rfl upA lnA lnA onA ?_; refine o_nil ?_; refine x_oneS hzB ?_; refine e_done (by kernel_rfl) ?_; refine x_then (hK2 _ _ ?_); refine c_seq fun _ hK3 => ?_; refine c_seq fun _ hK4 => ?_; refine c_region ?_; refine o_step rfl (s_field rfl rfl (by decide)) ?_; refine o_step rfl (s_ld rfl (.own meA rfl)) ?_; refine o_nil ?_; refine x_then (hK4 _ _ ?_); refine c_block ?_; refine c_seq fun _ hK5 => ?_; refine c_region ?_; refine o_step rfl (s_eql_t rfl rfl (by omega)) ?_; refine o_step rfl (s_assign rfl) ?_; refine o_nil ?_; refine x_then (hK5 _ _ ?_); refine c_true rfl ?_; refine c_seq fun _ hK6 => ?_; refine c_seq fun _ hK7 => ?_; refine c_region ?_; refine o_step rfl (s_field rfl rfl (by decide)) ?_; refine o_step rfl (s_ld rfl ((.own meA rfl : Cel _ _ _ (.int .i64 (i : Int))))) ?_; refine o_step rfl (s_add rfl rfl (by omega)) ?_
  refine o_step rfl (s_assign rfl) ?_; refine o_nil ?_; refine x_then (hK7 _ _ ?_); refine c_block ?_
  -- not carried: 4
  refine c_loop4 (fun (kp : Nat) (g : F) (es2 : List Me) (c2 : Nat) => Part K.re g kp (i + 1 + ks.size) ∧ g.size ≤ ks.size ∧ (der K.tx ks true p q ↔ der K.tx g true p q) ∧ MapOk K.tx K.re es2) (fun (kp : Nat) (g : F) (es2 : List Me) (c2 : Nat) => [(6, .int .i64 kp)]) [(0, _), (3, _), (5, _)] (fun (kp : Nat) (g : F) (es2 : List Me) (c2 : Nat) => (K.bM, mpO es2 c2) :: (b5, .cells (En x).toArray 108 (0, 0)) :: [(b3, .cells (Ek (⟨i, -1, p, q⟩ : Ky)).toArray 184 (0, 0))]) (fun (kp : Nat) (g : F) (es2 : List Me) (c2 : Nat) => g.size) (i + 1) ks es c ⟨hpk, Nat.le_refl _, Iff.rfl, hes⟩ sbA sbA hzB ?_
  rintro kp g es2 c2 ⟨hpg, hgs, hder, hes2⟩
  have hgl := hpg.len
  have hgle := hpg.le
  refine c_seq fun _ hK8 => ?_; refine c_seq fun _ hK9 => ?_; refine c_drawE ([(b3, .cells (Ek (⟨i, -1, p, q⟩ : Ky)).toArray 184 (0, 0))]) (fun i => false) ?_; refine e_tk 0 rfl hzB (s_move rfl) ?_; refine e_tk 1 rfl hzB (s_move rfl) ?_; refine e_tk 2 rfl hzB (s_nil rfl) ?_; refine e_tk 3 rfl hzB (s_field rfl rfl (by decide)) ?_; refine e_tk 4 rfl hzB (s_ld rfl ((RdPK.old hw.p4 hw.n4).cel (j := 1) rfl rfl)) ?_; refine e_tk 5 rfl hzB (s_field rfl rfl (by decide)) ?_; refine e_tk 6 rfl hzB (s_ld rfl ((.own meA rfl : Cel _ _ _ (.int .i64 (i : Int))))) ?_; refine e_tk 7 rfl hzB (s_idx rfl rfl hse (by omega)) ?_; refine e_tk 8 rfl hzB (s_ld rfl ((RdK.old hw.d3 hw.a3).ld i 0 hei rfl (by decide) (by omega))) ?_
  by_cases hk : (kp : Int) < i + 1 + ks.size
  ·
   obtain ⟨y, js, r2, rfl⟩ : ∃ y ks1 r2, g = F.nd y ks1 r2 := by cases g with | nil => simp [F.size] at hgl; omega | nd y a b => exact ⟨y, a, b, rfl⟩
   obtain ⟨hy, hpy, hpt⟩ := hpg.head
   have hpo := hpg.one
   have hge := hK.ends.2 _ y js r2 _ (Nat.zero_le _) hpg
   have hply := hpy.le
   simp only [F.size] at hgs hgl
   refine e_tk 9 rfl hzB (step_cast (v' := .bool true) (s_lss rfl rfl) (by rw [decide_eq_true (by omega)])) ?_; refine e_done (by kernel_rfl) ?_; refine x_then (hK9 _ _ ?_); refine c_true rfl ?_; refine c_skip ?_; refine x_then (hK8 _ _ ?_); refine c_seq fun _ hK10 => ?_; refine c_block ?_; refine c_seq fun _ hK11 => ?_; refine c_drawE ([(b3, .cells (Ek (⟨i, -1, p, q⟩ : Ky)).toArray 184 (0, 0))]) (fun i => false) ?_; refine e_tk 0 rfl hzB (s_move rfl) ?_; refine e_tk 1 rfl hzB (s_nil rfl) ?_; refine e_tk 2 rfl hzB (s_field rfl rfl (by decide)) ?_; refine e_tk 3 rfl hzB (s_ld rfl ((RdPK.old hw.p4 hw.n4).cel (j := 4) rfl rfl)) ?_; refine e_tk 4 rfl hzB (s_move rfl) ?_; refine e_tk 5 rfl hzB (s_field rfl rfl (by decide)) ?_; refine e_tk 6 rfl hzB (s_ld rfl ((.own meA rfl : Cel _ _ _ (.int .i64 (p : Int))))) ?_; refine e_tk 7 rfl hzB (s_field rfl rfl (by decide)) ?_; refine e_tk 8 rfl hzB (s_ld rfl ((.own meA rfl : Cel _ _ _ (.int .i64 (q : Int))))) ?_
   refine e_one 9 rfl (by kernel_rfl) ?_; refine o_callC (us := []) (vs := [_, _, _]) (cs := [pt K.bRe, pt K.bTx, pt K.bA]) (ihN y js (by omega) kp _ p q es2 c2 hpo hpq hq hes2) rfl rfl rfl pkA (fun w st => hw.out st (fun _ h => h)) (fun v52 S52 ⟨es52, c52, hv52, hS52, hm52⟩ => ?_); subst hv52
   subst hS52
   cases hb52 : dQ (der1 K.tx y js p q)
   ·
    have hn52 : ¬ der1 K.tx y js p q := fun h => by rw [dQ_t h] at hb52; cases hb52
    refine o_nil ?_; refine x_oneS hzB ?_; refine e_done (by kernel_rfl) ?_; refine x_then (hK11 _ _ ?_); refine c_false rfl ?_; refine c_skip ?_; refine x_block ?_; refine x_then (hK10 _ _ ?_); refine c_region ?_; refine o_step rfl (s_move rfl) ?_; refine o_step rfl (s_nil rfl) ?_; refine o_step rfl (s_field rfl rfl (by decide)) ?_; refine o_step rfl (s_ld rfl ((RdPK.old hw.p4 hw.n4).cel (j := 1) rfl rfl)) ?_; refine o_step rfl (s_move rfl) ?_; refine o_step rfl (s_idx rfl rfl hse (by omega)) ?_; refine o_step rfl (s_ld rfl ((RdK.old hw.d3 hw.a3).ld kp 0 hge rfl (by decide) (by omega))) ?_; refine o_step rfl (s_assign rfl) ?_; refine o_nil ?_; exact x_then (x_inv ((kp + 1 + js.size), r2, es52, c52) ⟨hpt, by dsimp only; omega, by dsimp only; rw [hder, der_alt]; exact ⟨fun h => h.resolve_left hn52, .inr⟩, hm52⟩ (by simp only [F.size]; omega) sbA hzB)
   ·
    refine o_nil ?_; refine x_oneS hzB ?_; refine e_done (by kernel_rfl) ?_; refine x_then (hK11 _ _ ?_); refine c_true rfl ?_; refine c_seq fun _ hK12 => ?_; refine c_region ?_; refine o_step rfl (s_assign rfl) ?_; refine o_nil ?_; refine x_then (hK12 _ _ ?_); refine c_ret ?_; refine x_block_ret (x_then_ret (x_then_ret (x_block_ret (x_then_ret (x_block_ret (x_then_ret (?_)))))))
    refine x_sub (Sub.refl _) (H' := [(K.bM, mpO es52 c52)]) hzB ?_; exact x_ret rfl (.tmp rfl (.nil)) (⟨es52, c52, congrArg Value.bool (dQ_t ((Qry_alt hp h5).2 (hder.2 (der_alt.2 (.inl (dQ_iff.1 hb52)))))).symm, rfl, hm52⟩)
  ·
   obtain rfl : g = F.nil := F.size_nil (by omega)
   refine e_tk 9 rfl hzB (step_cast (v' := .bool false) (s_lss rfl rfl) (by rw [decide_eq_false (by omega)])) ?_; refine e_done (by kernel_rfl) ?_; refine x_then (hK9 _ _ ?_); refine c_false rfl ?_; refine c_exit ?_; refine x_then_exit ?_; refine x_then_exit ?_; refine x_block_exit ?_; refine x_then (hK6 _ _ ?_); refine c_seq fun _ hK13 => ?_; refine c_region ?_; refine o_step rfl (s_assign rfl) ?_; refine o_nil ?_; refine x_then (hK13 _ _ ?_); refine c_ret ?_; refine x_block_ret (x_then_ret (?_))
   refine x_sub (Sub.refl _) (H' := [(K.bM, mpO es2 c2)]) hzB ?_; exact x_ret rfl (.tmp rfl (.nil)) (⟨es2, c2, congrArg Value.bool (dQ_f fun h => der_nil'.1 (hder.1 ((Qry_alt hp h5).1 h))).symm, rfl, hes2⟩)

set_option maxHeartbeats 1000000 in
theorem find_cat (K : AskE) (hK : K.ok) (x : Nd) (ks : F) (i i1 p q : Nat) (es : List Me) (c : Nat) (hp : Part K.re (.nd x ks .nil) i i1) (hpq : p ≤ q) (hq : q ≤ K.tx.length) (hes : MapOk K.tx K.re es) (m : Nat) (g : F) (hg : Part K.re g m i1) (h4 : x.op = 4) (hkid : ∀ y js r, g = .nd y js r → KidK Tryz.prog K 143 (⟨i, m, p, q⟩ : Ky) (fun n => der1 K.tx y js p n ∧ der K.tx r false n q) p q) : HL.Fn Tryz.prog 126 [pt K.bS, .agg (Ek (⟨i, m, p, q⟩ : Ky)).toArray] (fun W => Env W K [K.bM]) [(K.bM, mpO es c)] (AnsK K (Qry K.tx K.re (⟨i, m, p, q⟩ : Ky))) := by
  refine fn_of Tryz.func126 rfl rfl rfl fun w0 hw => ?_
  have hsl := hw.d1.sl
  have hst := hw.d2.sl
  have hse := hw.d3.sl
  have htl := hK.tx
  have hrl := hK.len
  obtain rfl : i1 = i + 1 + ks.size := by have := hp.len; simp only [F.size] at this; omega
  obtain ⟨hx, hpk, _⟩ := hp.head
  have hilt := (List.getElem?_eq_some_iff.1 hx).1
  have hxm := List.mem_of_getElem? hx
  have hox := hK.rng x hxm
  have hx8 := hK.no8 x hxm
  have hok : ndOk x = true := hp.wf.1
  have hop : 1 ≤ x.op ∧ x.op ≤ 8 := (flds_iff.1 (by simp only [ndOk, Bool.and_eq_true] at hok; exact hok.1)).1
  have hpkl := hpk.le
  have hei := hK.ends.2 i x ks .nil _ (Nat.zero_le _) hp
  have hell := hK.ends.1
  rw [hell] at hse
  have hpg := hg
  have hgl := hpg.len
  refine c_seq fun _ hK1 => ?_; refine c_region ?_; refine o_box rfl rfl rfl fun b3 => ?_; refine o_step rfl (s_assign rfl) ?_; refine o_nil ?_; refine x_then (hK1 _ _ ?_); refine c_seq fun _ hK2 => ?_; refine c_drawE ([(b3, .cells (Ek (⟨i, m, p, q⟩ : Ky)).toArray 184 (0, 0))]) (fun i => false) ?_; refine e_tk 0 rfl hzB (s_move rfl) ?_; refine e_tk 1 rfl hzB (s_nil rfl) ?_; refine e_tk 2 rfl hzB (s_field rfl rfl (by decide)) ?_; refine e_tk 3 rfl hzB (s_ld rfl ((RdPK.old hw.p4 hw.n4).cel (j := 0) rfl rfl)) ?_; refine e_tk 4 rfl hzB (s_field rfl rfl (by decide)) ?_; refine e_tk 5 rfl hzB (s_ld rfl ((.own meA rfl : Cel _ _ _ (.int .i64 (i : Int))))) ?_; refine e_tk 6 rfl hzB (s_idx rfl rfl hsl (by omega)) ?_; refine e_tk 7 rfl hzB (s_ldB rfl ((RdK.old hw.d1 hw.a1).lds i hx rfl) (by rfl)) ?_; refine e_one 8 rfl (by kernel_rfl) ?_; refine o_alloc (l := En zN) (by rw [En_zero]; rfl) rfl fun b5 => ?_
  refine o_nil ?_; refine x_oneS hzB ?_; refine e_one 9 rfl (by kernel_rfl) ?_; refine o_stW rfl rfl upA lnA lnA onA ?_; refine o_nil ?_; refine x_oneS hzB ?_; refine e_done (by kernel_rfl) ?_; refine x_then (hK2 _ _ ?_); refine c_seq fun _ hK3 => ?_; refine c_seq fun _ hK4 => ?_; refine c_region ?_; refine o_step rfl (s_field rfl rfl (by decide)) ?_; refine o_step rfl (s_ld rfl (.own meA rfl)) ?_; refine o_nil ?_; refine x_then (hK4 _ _ ?_); refine c_block ?_; refine c_seq fun _ hK5 => ?_; refine c_region ?_; refine o_step rfl (s_eql_f rfl rfl (by omega)) ?_; refine o_step rfl (s_assign rfl) ?_; refine o_nil ?_; refine x_then (hK5 _ _ ?_); refine c_false rfl ?_; refine c_seq fun _ hK6 => ?_; refine c_region ?_; refine o_step rfl (s_eql_t rfl rfl (by omega)) ?_; refine o_step rfl (s_assign rfl) ?_; refine o_nil ?_; refine x_then (hK6 _ _ ?_); refine c_true rfl ?_; refine c_seq fun _ hK7 => ?_
  refine c_seq fun _ hK8 => ?_; refine c_drawE ([(b3, .cells (Ek (⟨i, m, p, q⟩ : Ky)).toArray 184 (0, 0))]) (fun i => false) ?_; refine e_tk 0 rfl hzB (s_field rfl rfl (by decide)) ?_; refine e_tk 1 rfl hzB (s_ld rfl ((.own meA rfl : Cel _ _ _ (.int .i64 (m : Int))))) ?_; refine e_tk 2 rfl hzB (s_move rfl) ?_; refine e_tk 3 rfl hzB (s_nil rfl) ?_; refine e_tk 4 rfl hzB (s_field rfl rfl (by decide)) ?_; refine e_tk 5 rfl hzB (s_ld rfl ((RdPK.old hw.p4 hw.n4).cel (j := 1) rfl rfl)) ?_; refine e_tk 6 rfl hzB (s_field rfl rfl (by decide)) ?_; refine e_tk 7 rfl hzB (s_ld rfl ((.own meA rfl : Cel _ _ _ (.int .i64 (i : Int))))) ?_; refine e_tk 8 rfl hzB (s_idx rfl rfl hse (by omega)) ?_; refine e_tk 9 rfl hzB (s_ld rfl ((RdK.old hw.d3 hw.a3).ld i 0 hei rfl (by decide) (by omega))) ?_
  by_cases hme : (m : Int) = i + 1 + ks.size
  ·
   obtain rfl : g = F.nil := F.size_nil (by omega)
   refine e_tk 10 rfl hzB (step_cast (v' := .bool true) (s_eql rfl rfl) (by rw [decide_eq_true (by omega)])) ?_; refine e_done (by kernel_rfl) ?_; refine x_then (hK8 _ _ ?_); refine c_true rfl ?_; refine c_seq fun _ hK9 => ?_; refine c_region ?_; refine o_step rfl (s_field rfl rfl (by decide)) ?_; refine o_step rfl (s_ld rfl ((.own meA rfl : Cel _ _ _ (.int .i64 (p : Int))))) ?_; refine o_step rfl (s_field rfl rfl (by decide)) ?_; refine o_step rfl (s_ld rfl ((.own meA rfl : Cel _ _ _ (.int .i64 (q : Int))))) ?_; refine o_step rfl (s_eql rfl rfl) ?_; refine o_step rfl (s_assign rfl) ?_; refine o_nil ?_; refine x_then (hK9 _ _ ?_); refine c_ret ?_; refine x_then_ret (x_block_ret (x_then_ret (?_)))
   refine x_sub (Sub.refl _) (H' := [(K.bM, mpO es c)]) hzB ?_; exact x_ret rfl (.tmp rfl (.nil)) (⟨es, c, congrArg Value.bool (dQ_b (by rw [Qry_cat hp h4 hg, der_nil, decide_eq_true_iff]; omega)).symm, rfl, hes⟩)
  ·
   obtain ⟨y, js, r2, rfl⟩ : ∃ y ks1 r2, g = F.nd y ks1 r2 := by cases g with | nil => simp [F.size] at hgl; omega | nd y a b => exact ⟨y, a, b, rfl⟩
   obtain ⟨hy, hpy, hpt⟩ := hpg.head
   have hpo := hpg.one
   have hge := hK.ends.2 _ y js r2 _ (Nat.zero_le _) hpg
   have hply := hpy.le
   refine e_tk 10 rfl hzB (step_cast (v' := .bool false) (s_eql rfl rfl) (by rw [decide_eq_false (by omega)])) ?_; refine e_done (by kernel_rfl) ?_; refine x_then (hK8 _ _ ?_); refine c_false rfl ?_; refine c_skip ?_; refine x_then (hK7 _ _ ?_); refine c_seq fun _ hK10 => ?_; refine c_region ?_; refine o_step rfl (s_move rfl) ?_; refine o_step rfl (s_ldB rfl (RdPK.cels (.own meA)) lnA) ?_; refine o_call (hkid y js r2 rfl es c hes) rfl rfl rfl pkA (fun w st => hw.out st (fun _ h => h)) (fun v74 S74 ⟨es74, c74, hS74, hm74, hv74⟩ => ?_); subst hS74
   rcases hv74 with ⟨m74, hg74, rfl⟩ | ⟨hn74, rfl⟩
   ·
    refine o_step rfl (s_move rfl) ?_; refine o_step rfl (s_extract rfl rfl) ?_; refine o_step rfl (s_extract rfl rfl) ?_; refine o_step rfl (s_assign rfl) ?_; refine o_step rfl (s_assign rfl) ?_; refine o_nil ?_; refine x_then (hK10 _ _ ?_); refine c_seq fun _ hK11 => ?_; refine c_region ?_; refine o_step rfl (s_move rfl) ?_; refine o_step rfl (s_assign rfl) ?_; refine o_nil ?_; refine x_then (hK11 _ _ ?_); refine c_ret ?_; refine x_block_ret (x_then_ret (?_))
    refine x_sub (Sub.refl _) (H' := [(K.bM, mpO es74 c74)]) hzB ?_; exact x_ret rfl (.tmp rfl (.nil)) (⟨es74, c74, congrArg Value.bool (dQ_t ((Qry_cat hp h4 hg).2 (der_cat.2 ⟨m74, hg74.2.2.1.1, hg74.2.2.1.2⟩))).symm, rfl, hm74⟩)
   ·
    refine o_step rfl (s_move rfl) ?_; refine o_step rfl (s_extract rfl rfl) ?_; refine o_step rfl (s_extract rfl rfl) ?_; refine o_step rfl (s_assign rfl) ?_; refine o_step rfl (s_assign rfl) ?_; refine o_nil ?_; refine x_then (hK10 _ _ ?_); refine c_seq fun _ hK12 => ?_; refine c_region ?_; refine o_step rfl (s_move rfl) ?_; refine o_step rfl (s_assign rfl) ?_; refine o_nil ?_; refine x_then (hK12 _ _ ?_); refine c_ret ?_; refine x_block_ret (x_then_ret (?_))
    refine x_sub (Sub.refl _) (H' := [(K.bM, mpO es74 c74)]) hzB ?_; exact x_ret rfl (.tmp rfl (.nil)) (⟨es74, c74, congrArg Value.bool (dQ_f fun h => kid_cat hn74 ((Qry_cat hp h4 hg).1 h)).symm, rfl, hm74⟩)

set_option maxHeartbeats 1000000 in
theorem find_rep (K : AskE) (hK : K.ok) (x : Nd) (ks : F) (i i1 p q : Nat) (es : List Me) (c : Nat) (hp : Part K.re (.nd x ks .nil) i i1) (hpq : p ≤ q) (hq : q ≤ K.tx.length) (hes : MapOk K.tx K.re es) (r : Nat) (h6 : x.op = 6) (hr : x.mx = -1 ∨ (r : Int) ≤ x.mx) (hrnd : KidK Tryz.prog K 144 (⟨i, r, p, q⟩ : Ky) (RQ x (der K.tx ks false) r p q) p q) : HL.Fn Tryz.prog 126 [pt K.bS, .agg (Ek (⟨i, r, p, q⟩ : Ky)).toArray] (fun W => Env W K [K.bM]) [(K.bM, mpO es c)] (AnsK K (Qry K.tx K.re (⟨i, r, p, q⟩ : Ky))) := by
  refine fn_of Tryz.func126 rfl rfl rfl fun w0 hw => ?_
  have hsl := hw.d1.sl
  have hst := hw.d2.sl
  have hse := hw.d3.sl
  have htl := hK.tx
  have hrl := hK.len
  obtain rfl : i1 = i + 1 + ks.size := by have := hp.len; simp only [F.size] at this; omega
  obtain ⟨hx, hpk, _⟩ := hp.head
  have hilt := (List.getElem?_eq_some_iff.1 hx).1
  have hxm := List.mem_of_getElem? hx
  have hox := hK.rng x hxm
  have hx8 := hK.no8 x hxm
  have hok : ndOk x = true := hp.wf.1
  have hop : 1 ≤ x.op ∧ x.op ≤ 8 := (flds_iff.1 (by simp only [ndOk, Bool.and_eq_true] at hok; exact hok.1)).1
  have hpkl := hpk.le
  have hei := hK.ends.2 i x ks .nil _ (Nat.zero_le _) hp
  have hell := hK.ends.1
  rw [hell] at hse
  refine c_seq fun _ hK1 => ?_; refine c_region ?_; refine o_box rfl rfl rfl fun b3 => ?_; refine o_step rfl (s_assign rfl) ?_; refine o_nil ?_; refine x_then (hK1 _ _ ?_); refine c_seq fun _ hK2 => ?_; refine c_drawE ([(b3, .cells (Ek (⟨i, r, p, q⟩ : Ky)).toArray 184 (0, 0))]) (fun i => false) ?_; refine e_tk 0 rfl hzB (s_move rfl) ?_; refine e_tk 1 rfl hzB (s_nil rfl) ?_; refine e_tk 2 rfl hzB (s_field rfl rfl (by decide)) ?_; refine e_tk 3 rfl hzB (s_ld rfl ((RdPK.old hw.p4 hw.n4).cel (j := 0) rfl rfl)) ?_; refine e_tk 4 rfl hzB (s_field rfl rfl (by decide)) ?_; refine e_tk 5 rfl hzB (s_ld rfl ((.own meA rfl : Cel _ _ _ (.int .i64 (i : Int))))) ?_; refine e_tk 6 rfl hzB (s_idx rfl rfl hsl (by omega)) ?_; refine e_tk 7 rfl hzB (s_ldB rfl ((RdK.old hw.d1 hw.a1).lds i hx rfl) (by rfl)) ?_; refine e_one 8 rfl (by kernel_rfl) ?_; refine o_alloc (l := En zN) (by rw [En_zero]; rfl) rfl fun b5 => ?_
  refine o_nil ?_; refine x_oneS hzB ?_; refine e_one 9 rfl (by kernel_rfl) ?_; refine o_stW rfl rfl upA lnA lnA onA ?_; refine o_nil ?_; refine x_oneS hzB ?_; refine e_done (by kernel_rfl) ?_; refine x_then (hK2 _ _ ?_); refine c_seq fun _ hK3 => ?_; refine c_seq fun _ hK4 => ?_; refine c_region ?_; refine o_step rfl (s_field rfl rfl (by decide)) ?_; refine o_step rfl (s_ld rfl (.own meA rfl)) ?_; refine o_nil ?_; refine x_then (hK4 _ _ ?_); refine c_block ?_; refine c_seq fun _ hK5 => ?_; refine c_region ?_; refine o_step rfl (s_eql_f rfl rfl (by omega)) ?_; refine o_step rfl (s_assign rfl) ?_; refine o_nil ?_; refine x_then (hK5 _ _ ?_); refine c_false rfl ?_; refine c_seq fun _ hK6 => ?_; refine c_region ?_; refine o_step rfl (s_eql_f rfl rfl (by omega)) ?_; refine o_step rfl (s_assign rfl) ?_; refine o_nil ?_; refine x_then (hK6 _ _ ?_); refine c_false rfl ?_; refine c_skip ?_; refine x_block ?_
  refine x_then (hK3 _ _ ?_); refine c_seq fun _ hK7 => ?_; refine c_seq fun _ hK8 => ?_; refine c_region ?_; refine o_step rfl (s_field rfl rfl (by decide)) ?_; refine o_step rfl (s_ld rfl ((.own meA rfl : Cel _ _ _ (.int .i64 (p : Int))))) ?_; refine o_step rfl (s_field rfl rfl (by decide)) ?_; refine o_step rfl (s_ld rfl ((.own meA rfl : Cel _ _ _ (.int .i64 (q : Int))))) ?_
  by_cases hpe : (p : Int) = q
  ·
   refine o_step rfl (step_cast (v' := .bool true) (s_eql rfl rfl) (by rw [decide_eq_true (by omega)])) ?_; refine o_step rfl (s_move rfl) ?_; refine o_yes rfl rfl ?_; refine o_step rfl (s_field rfl rfl (by decide)) ?_; refine o_yes rfl rfl ?_; refine o_step rfl (s_ld rfl ((.own meA rfl : Cel _ _ _ (.int .i64 (r : Int))))) ?_; refine o_yes rfl rfl ?_; refine o_step rfl (s_field rfl rfl (by decide)) ?_; refine o_yes rfl rfl ?_; refine o_step rfl (s_ld rfl (.own meA rfl)) ?_; refine o_yes rfl rfl ?_
   by_cases hrm : (r : Int) ≥ x.mn
   ·
    refine o_step rfl (step_cast (v' := .bool true) (s_geq rfl rfl) (by rw [decide_eq_true (by omega)])) ?_; refine o_step rfl (s_pick_t rfl rfl) ?_; refine o_nil ?_; refine x_then (hK8 _ _ ?_); refine c_true rfl ?_; refine c_seq fun _ hK9 => ?_; refine c_region ?_; refine o_step rfl (s_assign rfl) ?_; refine o_nil ?_; refine x_then (hK9 _ _ ?_); refine c_ret ?_; refine x_then_ret (?_); refine x_sub (Sub.refl _) (H' := [(K.bM, mpO es c)]) hzB ?_; exact x_ret rfl (.tmp rfl (.nil)) (⟨es, c, congrArg Value.bool (dQ_t ((Qry_rep hp h6).2 (RR_step.2 (.inl ⟨by omega, hrm, hr⟩)))).symm, rfl, hes⟩)
   ·
    refine o_step rfl (step_cast (v' := .bool false) (s_geq rfl rfl) (by rw [decide_eq_false (by omega)])) ?_; refine o_step rfl (s_pick_t rfl rfl) ?_; refine o_nil ?_; refine x_then (hK8 _ _ ?_); refine c_false rfl ?_; refine c_skip ?_; refine x_then (hK7 _ _ ?_); refine c_seq fun _ hK10 => ?_; refine c_region ?_; refine o_step rfl (s_move rfl) ?_; refine o_step rfl (s_ldB rfl (RdPK.cels (.own meA)) lnA) ?_; refine o_call (hrnd es c hes) rfl rfl rfl pkA (fun w st => hw.out st (fun _ h => h)) (fun v93 S93 ⟨es93, c93, hS93, hm93, hv93⟩ => ?_); subst hS93
    rcases hv93 with ⟨m93, hg93, rfl⟩ | ⟨hn93, rfl⟩
    ·
     refine o_step rfl (s_move rfl) ?_; refine o_step rfl (s_extract rfl rfl) ?_; refine o_step rfl (s_extract rfl rfl) ?_; refine o_step rfl (s_assign rfl) ?_; refine o_step rfl (s_assign rfl) ?_; refine o_nil ?_; refine x_then (hK10 _ _ ?_); refine c_seq fun _ hK11 => ?_; refine c_region ?_; refine o_step rfl (s_move rfl) ?_; refine o_step rfl (s_assign rfl) ?_; refine o_nil ?_; refine x_then (hK11 _ _ ?_); refine c_ret ?_; refine ?_; refine x_sub (Sub.refl _) (H' := [(K.bM, mpO es93 c93)]) hzB ?_; exact x_ret rfl (.tmp rfl (.nil)) (⟨es93, c93, congrArg Value.bool (dQ_t ((Qry_rep hp h6).2 (RR_step.2 (.inr ⟨m93, hg93.2.2.1⟩)))).symm, rfl, hm93⟩)
    ·
     refine o_step rfl (s_move rfl) ?_; refine o_step rfl (s_extract rfl rfl) ?_; refine o_step rfl (s_extract rfl rfl) ?_; refine o_step rfl (s_assign rfl) ?_; refine o_step rfl (s_assign rfl) ?_; refine o_nil ?_; refine x_then (hK10 _ _ ?_); refine c_seq fun _ hK12 => ?_; refine c_region ?_; refine o_step rfl (s_move rfl) ?_; refine o_step rfl (s_assign rfl) ?_; refine o_nil ?_; refine x_then (hK12 _ _ ?_); refine c_ret ?_; refine ?_; refine x_sub (Sub.refl _) (H' := [(K.bM, mpO es93 c93)]) hzB ?_; exact x_ret rfl (.tmp rfl (.nil)) (⟨es93, c93, congrArg Value.bool (dQ_f fun h => kid_rep (der_up _ _) (by omega) hn93 ((Qry_rep hp h6).1 h)).symm, rfl, hm93⟩)
  ·
   refine o_step rfl (step_cast (v' := .bool false) (s_eql rfl rfl) (by rw [decide_eq_false (by omega)])) ?_; refine o_step rfl (s_move rfl) ?_; refine o_no rfl rfl rfl rfl ?_; refine o_no rfl rfl rfl rfl ?_; refine o_no rfl rfl rfl rfl ?_; refine o_no rfl rfl rfl rfl ?_; refine o_no rfl rfl rfl rfl ?_; refine o_step rfl (s_pick_f rfl rfl) ?_; refine o_nil ?_; refine x_then (hK8 _ _ ?_); refine c_false rfl ?_; refine c_skip ?_; refine x_then (hK7 _ _ ?_); refine c_seq fun _ hK13 => ?_; refine c_region ?_; refine o_step rfl (s_move rfl) ?_; refine o_step rfl (s_ldB rfl (RdPK.cels (.own meA)) lnA) ?_; refine o_call (hrnd es c hes) rfl rfl rfl pkA (fun w st => hw.out st (fun _ h => h)) (fun v93 S93 ⟨es93, c93, hS93, hm93, hv93⟩ => ?_); subst hS93
   rcases hv93 with ⟨m93, hg93, rfl⟩ | ⟨hn93, rfl⟩
   ·
    refine o_step rfl (s_move rfl) ?_; refine o_step rfl (s_extract rfl rfl) ?_; refine o_step rfl (s_extract rfl rfl) ?_; refine o_step rfl (s_assign rfl) ?_; refine o_step rfl (s_assign rfl) ?_; refine o_nil ?_; refine x_then (hK13 _ _ ?_); refine c_seq fun _ hK14 => ?_; refine c_region ?_; refine o_step rfl (s_move rfl) ?_; refine o_step rfl (s_assign rfl) ?_; refine o_nil ?_; refine x_then (hK14 _ _ ?_); refine c_ret ?_; refine ?_; refine x_sub (Sub.refl _) (H' := [(K.bM, mpO es93 c93)]) hzB ?_; exact x_ret rfl (.tmp rfl (.nil)) (⟨es93, c93, congrArg Value.bool (dQ_t ((Qry_rep hp h6).2 (RR_step.2 (.inr ⟨m93, hg93.2.2.1⟩)))).symm, rfl, hm93⟩)
   ·
    refine o_step rfl (s_move rfl) ?_; refine o_step rfl (s_extract rfl rfl) ?_; refine o_step rfl (s_extract rfl rfl) ?_; refine o_step rfl (s_assign rfl) ?_; refine o_step rfl (s_assign rfl) ?_; refine o_nil ?_; refine x_then (hK13 _ _ ?_); refine c_seq fun _ hK15 => ?_; refine c_region ?_; refine o_step rfl (s_move rfl) ?_; refine o_step rfl (s_assign rfl) ?_; refine o_nil ?_; refine x_then (hK15 _ _ ?_); refine c_ret ?_; refine ?_; refine x_sub (Sub.refl _) (H' := [(K.bM, mpO es93 c93)]) hzB ?_; exact x_ret rfl (.tmp rfl (.nil)) (⟨es93, c93, congrArg Value.bool (dQ_f fun h => kid_rep (der_up _ _) (by omega) hn93 ((Qry_rep hp h6).1 h)).symm, rfl, hm93⟩)
end Go.Proofs.YtopmnmigpbdddaaGreatDoor
