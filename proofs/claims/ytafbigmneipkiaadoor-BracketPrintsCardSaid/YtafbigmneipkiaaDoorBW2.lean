/- Part of the proofs over this seat: see the text that holds the theorem. Conditions: each theorem bears its own. -/
import Derived.Test.YtafbigmneipkiaaDoorHlB
import Derived.Test.YtafbigmneipkiaaDoorBW1
namespace Go.Proofs.YtafbigmneipkiaaDoor
open Go Go.HL Go.Proofs Go.Tab Go.HL.Kl Go.HL.Kl.Bk
theorem u8_of {b : UInt8} {n : Nat} (h : (b.toNat : Int) = (n : Int)) : b = UInt8.ofNat n := by
  have h1 : b.toNat = n := by omega
  rw [← h1]; simp
theorem thing_fn (br : Nat) (la : Option Addr) (lc : Nat) (l : List Mk) (at0 : Nat) (i : Nat) : HL.Fn Tryd.prog 64 [.pointer (some ⟨br, 0, none⟩), .int .i64 i] (fun w => RdP w br 0 [.slice la l.length lc, .int .i64 at0] ∧ Rd Em w (.slice la l.length lc) l) [] (fun v S' => RV (thP l at0 i) v S') := by
  refine fn_of Tryd.func64 rfl rfl rfl fun w0 hw => ?_
  have hsl := hw.2.sl
  have hbl := hsl.le
  refine c_seq fun _ hK1 => ?_
  refine c_region ?_
  refine o_alloc (l := Eth zTh) (by rw [eth_zero]; rfl) rfl fun b4 => ?_
  refine o_step rfl (s_assign rfl) ?_
  refine o_nil ?_
  refine x_then (hK1 _ _ ?_)
  refine c_seq fun _ hK2 => ?_
  refine c_seq fun _ hK3 => ?_
  refine c_region ?_
  refine o_step rfl (s_move rfl) ?_
  refine o_step rfl (s_move rfl) ?_
  refine o_step rfl (s_nil rfl) ?_
  refine o_step rfl (s_field rfl rfl (by decide)) ?_
  refine o_step rfl (s_ld rfl ((RdPK.old0 hw.1).cel (j := 0) rfl rfl)) ?_
  refine o_step rfl (s_len rfl) ?_
  refine o_step rfl (s_geq rfl rfl) ?_
  refine o_nil ?_
  refine x_then (hK3 _ _ ?_)
  refine c_if rfl (fun hge => ?_) (fun hge => ?_)
  · skip
    refine c_seq fun _ hK4 => ?_
    refine c_region ?_
    refine o_step rfl (step_cast (v' := .agg (Eth zTh).toArray) (s_build (cs := [_, _, _, _, _, _, _]) (vs := []) rfl rfl (.nil)) (by rw [eth_zero])) ?_
    refine o_step rfl (s_move rfl) ?_
    refine o_call (open_fn br la lc l at0) rfl rfl rfl (by exact .nil) (fun w st => ⟨(RdPK.old0 hw.1).out w st, (RdK.old0 hw.2).out w st⟩) (fun v17 S17 ⟨bf, hv17, hS17⟩ => ?_)
    subst hv17
    subst hS17
    refine o_stW rfl rfl upA (eth_len _) (eth_len _) (eth_one _) ?_
    refine o_step rfl (s_assign rfl) ?_
    refine o_nil ?_
    refine x_then (hK4 _ _ ?_)
    refine c_ret ?_
    refine x_then_ret (?_)
    refine x_sub (Sub.refl _) (H' := (bf, .cells [.int .i64 32, .int .i64 at0].toArray 89 (0, 0)) :: [(b4, .cells (Eth zTh).toArray 84 (0, 0))]) hzA ?_
    exact x_ret rfl (.agg inferInstance inferInstance rfl (RdPK.cels (.own meA)) lnA (.tmp rfl (.nil))) (⟨zTh, _, rfl, by rw [show thP l at0 i = .bad 32 at0 by unfold thP; rw [if_pos (by omega)]]; exact ⟨_, _, rfl, rfl⟩⟩)
  · skip
    have hil : i < l.length := by omega
    refine c_skip ?_
    refine x_then (hK2 _ _ ?_)
    refine c_seq fun _ hK5 => ?_
    refine c_seq fun _ hK6 => ?_
    refine c_region ?_
    refine o_step rfl (s_move rfl) ?_
    refine o_step rfl (s_move rfl) ?_
    refine o_callP (sign_fn br la lc l at0 (i) 91 91 (by decide)) rfl rfl rfl (fun w st => ⟨(RdPK.old0 hw.1).out w st, (RdK.old0 hw.2).out w st⟩) (fun v20 hv20 => ?_)
    subst hv20
    cases h91 : sg l (i) 91
    · skip
      have hN : thP l at0 i = .ok (oneP l i) := by unfold thP; rw [if_neg (by omega), if_neg (by rintro ⟨r1, r2, r3⟩; first | exact absurd r1 (by rw [h91]; decide) | omega | exact absurd r3 (by rw [hpl]; decide))]
      refine o_step rfl (s_move rfl) ?_
      refine o_no rfl rfl rfl rfl ?_
      refine o_no rfl rfl rfl rfl ?_
      refine o_no rfl rfl rfl rfl ?_
      refine o_no rfl rfl rfl rfl ?_
      refine o_no rfl rfl rfl rfl ?_
      refine o_no rfl rfl rfl rfl ?_
      refine o_no rfl rfl rfl rfl ?_
      refine o_no rfl rfl rfl rfl ?_
      refine o_step rfl (s_pick_f rfl rfl) ?_
      refine o_step rfl (s_move rfl) ?_
      refine o_no rfl rfl rfl rfl ?_
      refine o_no rfl rfl rfl rfl ?_
      refine o_no rfl rfl rfl rfl ?_
      refine o_no rfl rfl rfl rfl ?_
      refine o_no rfl rfl rfl rfl ?_
      refine o_no rfl rfl rfl rfl ?_
      refine o_no rfl rfl rfl rfl ?_
      refine o_no rfl rfl rfl rfl ?_
      refine o_no rfl rfl rfl rfl ?_
      refine o_no rfl rfl rfl rfl ?_
      refine o_step rfl (s_pick_f rfl rfl) ?_
      refine o_nil ?_
      refine x_then (hK6 _ _ ?_)
      refine c_false rfl ?_
      refine c_skip ?_
      refine x_then (hK5 _ _ ?_)
      refine c_seq fun _ hK7 => ?_
      refine c_region ?_
      refine o_step rfl (s_move rfl) ?_
      refine o_step rfl (s_nil rfl) ?_
      refine o_step rfl (s_field rfl rfl (by decide)) ?_
      refine o_step rfl (s_ld rfl ((RdPK.old0 hw.1).cel (j := 0) rfl rfl)) ?_
      refine o_step rfl (s_move rfl) ?_
      refine o_step rfl (s_idx rfl rfl hsl (by omega)) ?_
      refine o_step rfl (s_field rfl rfl (by decide)) ?_
      refine o_step rfl (s_ld rfl ((RdK.old0 hw.2).ld i 0 (mk0_get hil) rfl (by decide) (by omega))) ?_
      refine o_step rfl (s_assign rfl) ?_
      refine o_nil ?_
      refine x_then (hK7 _ _ ?_)
      refine c_seq fun _ hK8 => ?_
      refine c_region ?_
      refine o_step rfl (s_move rfl) ?_
      refine o_bs (E := Eb) (xs := [(mk0 l i).b]) (vs := [_]) rfl rfl rfl rfl rfl (by decide) (by decide) fun b79 S79 hS79 => ?_
      refine o_callP (of_fn (some ⟨b79, 0, none⟩) 1 [(mk0 l i).b]) rfl rfl rfl (fun w st => (hS79.rdk hiA).out w st) (fun v80 hv80 => ?_)
      subst hv80
      refine o_step rfl (s_move rfl) ?_
      refine o_step rfl (s_move rfl) ?_
      refine o_step rfl (s_add rfl rfl (by omega)) ?_
      refine o_step rfl (step_cast (v' := .agg (Eth (oneP l i)).toArray) (s_build (cs := [_, _, _, _, _, _, _]) (vs := [_, _, _, _]) rfl rfl (.cons rfl rfl rfl rfl rfl (.cons rfl rfl rfl rfl rfl (.cons rfl rfl rfl rfl rfl (.cons rfl rfl rfl rfl rfl (.nil)))))) (rfl)) ?_
      refine o_stW rfl rfl upA (eth_len _) (eth_len _) (eth_one _) ?_
      refine o_step rfl (s_assign rfl) ?_
      refine o_nil ?_
      refine x_then (hK8 _ _ ?_)
      refine c_ret ?_
      refine ?_
      exact x_ret rfl (.agg inferInstance inferInstance rfl (RdPK.cels (.own meA)) lnA (.tmp rfl (.nil))) (⟨_, _, rfl, by rw [hN]; exact ⟨rfl, rfl⟩⟩)
    · skip
      refine o_step rfl (s_move rfl) ?_
      refine o_yes rfl rfl ?_
      refine o_step rfl (s_move rfl) ?_
      refine o_yes rfl rfl ?_
      refine o_step rfl (s_add rfl rfl (by omega)) ?_
      refine o_yes rfl rfl ?_
      refine o_step rfl (s_move rfl) ?_
      refine o_yes rfl rfl ?_
      refine o_step rfl (s_nil rfl) ?_
      refine o_yes rfl rfl ?_
      refine o_step rfl (s_field rfl rfl (by decide)) ?_
      refine o_yes rfl rfl ?_
      refine o_step rfl (s_ld rfl ((RdPK.old0 hw.1).cel (j := 0) rfl rfl)) ?_
      refine o_yes rfl rfl ?_
      refine o_step rfl (s_len rfl) ?_
      refine o_yes rfl rfl ?_
      by_cases hil1 : i + 1 < l.length
      · skip
        refine o_step rfl (step_cast (v' := .bool true) (s_lss rfl rfl) (by rw [decide_eq_true (by omega)])) ?_
        refine o_step rfl (s_pick_t rfl rfl) ?_
        refine o_step rfl (s_move rfl) ?_
        refine o_yes rfl rfl ?_
        refine o_step rfl (s_move rfl) ?_
        refine o_yes rfl rfl ?_
        refine o_step rfl (s_nil rfl) ?_
        refine o_yes rfl rfl ?_
        refine o_step rfl (s_field rfl rfl (by decide)) ?_
        refine o_yes rfl rfl ?_
        refine o_step rfl (s_ld rfl ((RdPK.old0 hw.1).cel (j := 0) rfl rfl)) ?_
        refine o_yes rfl rfl ?_
        refine o_step rfl (s_move rfl) ?_
        refine o_yes rfl rfl ?_
        refine o_step rfl (s_add rfl rfl (by omega)) ?_
        refine o_yes rfl rfl ?_
        refine o_step rfl (s_idx rfl rfl hsl (by omega)) ?_
        refine o_yes rfl rfl ?_
        refine o_step rfl (s_field rfl rfl (by decide)) ?_
        refine o_yes rfl rfl ?_
        by_cases hplt : (mk0 l (i + 1)).p = true
        · skip
          have hpl : (mk0 l (i + 1)).p = true := hplt
          have hN : thP l at0 i = .ok (oneP l i) := by unfold thP; rw [if_neg (by omega), if_neg (by rintro ⟨r1, r2, r3⟩; first | exact absurd r1 (by rw [h91]; decide) | omega | exact absurd r3 (by rw [hpl]; decide))]
          refine o_step rfl (step_cast (v' := .bool true) (s_ld rfl ((RdK.old0 hw.2).ld (i + 1) 1 (mk0_get hil1) rfl (by decide) (by omega))) (by rw [hplt])) ?_
          refine o_yes rfl rfl ?_
          refine o_step rfl (s_not rfl) ?_
          refine o_step rfl (s_pick_t rfl rfl) ?_
          refine o_nil ?_
          refine x_then (hK6 _ _ ?_)
          refine c_false rfl ?_
          refine c_skip ?_
          refine x_then (hK5 _ _ ?_)
          refine c_seq fun _ hK9 => ?_
          refine c_region ?_
          refine o_step rfl (s_move rfl) ?_
          refine o_step rfl (s_nil rfl) ?_
          refine o_step rfl (s_field rfl rfl (by decide)) ?_
          refine o_step rfl (s_ld rfl ((RdPK.old0 hw.1).cel (j := 0) rfl rfl)) ?_
          refine o_step rfl (s_move rfl) ?_
          refine o_step rfl (s_idx rfl rfl hsl (by omega)) ?_
          refine o_step rfl (s_field rfl rfl (by decide)) ?_
          refine o_step rfl (s_ld rfl ((RdK.old0 hw.2).ld i 0 (mk0_get hil) rfl (by decide) (by omega))) ?_
          refine o_step rfl (s_assign rfl) ?_
          refine o_nil ?_
          refine x_then (hK9 _ _ ?_)
          refine c_seq fun _ hK10 => ?_
          refine c_region ?_
          refine o_step rfl (s_move rfl) ?_
          refine o_bs (E := Eb) (xs := [(mk0 l i).b]) (vs := [_]) rfl rfl rfl rfl rfl (by decide) (by decide) fun b79 S79 hS79 => ?_
          refine o_callP (of_fn (some ⟨b79, 0, none⟩) 1 [(mk0 l i).b]) rfl rfl rfl (fun w st => (hS79.rdk hiA).out w st) (fun v80 hv80 => ?_)
          subst hv80
          refine o_step rfl (s_move rfl) ?_
          refine o_step rfl (s_move rfl) ?_
          refine o_step rfl (s_add rfl rfl (by omega)) ?_
          refine o_step rfl (step_cast (v' := .agg (Eth (oneP l i)).toArray) (s_build (cs := [_, _, _, _, _, _, _]) (vs := [_, _, _, _]) rfl rfl (.cons rfl rfl rfl rfl rfl (.cons rfl rfl rfl rfl rfl (.cons rfl rfl rfl rfl rfl (.cons rfl rfl rfl rfl rfl (.nil)))))) (rfl)) ?_
          refine o_stW rfl rfl upA (eth_len _) (eth_len _) (eth_one _) ?_
          refine o_step rfl (s_assign rfl) ?_
          refine o_nil ?_
          refine x_then (hK10 _ _ ?_)
          refine c_ret ?_
          refine ?_
          exact x_ret rfl (.agg inferInstance inferInstance rfl (RdPK.cels (.own meA)) lnA (.tmp rfl (.nil))) (⟨_, _, rfl, by rw [hN]; exact ⟨rfl, rfl⟩⟩)
        · skip
          have hpl : (mk0 l (i + 1)).p = false := by simpa using hplt
          refine o_step rfl (step_cast (v' := .bool false) (s_ld rfl ((RdK.old0 hw.2).ld (i + 1) 1 (mk0_get hil1) rfl (by decide) (by omega))) (by rw [hpl])) ?_
          refine o_yes rfl rfl ?_
          refine o_step rfl (s_not rfl) ?_
          refine o_step rfl (s_pick_t rfl rfl) ?_
          refine o_nil ?_
          refine x_then (hK6 _ _ ?_)
          refine c_true rfl ?_
          refine c_seq fun _ hK11 => ?_
          refine c_region ?_
          refine o_step rfl (s_move rfl) ?_
          refine o_step rfl (s_nil rfl) ?_
          refine o_step rfl (s_field rfl rfl (by decide)) ?_
          refine o_step rfl (s_ld rfl ((RdPK.old0 hw.1).cel (j := 0) rfl rfl)) ?_
          refine o_step rfl (s_move rfl) ?_
          refine o_step rfl (s_add rfl rfl (by omega)) ?_
          refine o_step rfl (s_idx rfl rfl hsl (by omega)) ?_
          refine o_step rfl (s_field rfl rfl (by decide)) ?_
          refine o_step rfl (s_ld rfl ((RdK.old0 hw.2).ld (i + 1) 0 (mk0_get hil1) rfl (by decide) (by omega))) ?_
          refine o_step rfl (s_assign rfl) ?_
          refine o_nil ?_
          refine x_then (hK11 _ _ ?_)
          refine c_seq fun _ hK12 => ?_
          refine c_region ?_
          refine o_step rfl (s_move rfl) ?_
          refine o_nil ?_
          refine x_then (hK12 _ _ ?_)
          refine c_block ?_
          refine c_seq fun _ hK13 => ?_
          refine c_block ?_
          refine c_block ?_
          refine c_seq fun _ hK14 => ?_
          refine c_block ?_
          refine c_seq fun _ hK15 => ?_
          refine c_seq fun _ hK16 => ?_
          refine c_seq fun _ hK17 => ?_
          refine c_region ?_
          refine o_step rfl (s_eql rfl rfl) ?_
          refine o_step rfl (s_assign rfl) ?_
          refine o_nil ?_
          refine x_then (hK17 _ _ ?_)
          refine c_if rfl (fun h58 => ?_) (fun h58 => ?_)
          · skip
            have h58u : (mk0 l (i + 1)).b = 58 := u8_of h58
            have hN : thP l at0 i = nameP l at0 i := by unfold thP; rw [if_neg (by omega), if_pos ⟨h91, hil1, hpl⟩, if_pos h58u]
            refine c_exit ?_
            refine x_then_exit ?_
            refine x_then_exit ?_
            refine x_block_exit ?_
            refine x_then (hK14 _ _ ?_)
            refine c_seq fun _ hK18 => ?_
            refine c_seq fun _ hK19 => ?_
            refine c_region ?_
            refine o_step rfl (s_move rfl) ?_
            refine o_step rfl (s_move rfl) ?_
            refine o_call (name_fn br la lc l at0 i hil) rfl rfl rfl (by exact .nil) (fun w st => ⟨(RdPK.old0 hw.1).out w st, (RdK.old0 hw.2).out w st⟩) (fun v61 S61 ⟨tt, pv, hv61, hr61⟩ => ?_)
            subst hv61
            refine o_step rfl (s_extract rfl rfl) ?_
            refine o_step rfl (s_extract rfl rfl) ?_
            refine o_stW rfl rfl upA (eth_len _) (eth_len _) (eth_one _) ?_
            refine o_step rfl (s_assign rfl) ?_
            refine o_nil ?_
            refine x_then (hK19 _ _ ?_)
            refine c_ret ?_
            refine x_then_ret (x_block_ret (x_block_ret (x_then_ret (x_block_ret (x_then_ret (?_))))))
            refine x_sub (Sub.refl _) (H' := S61 ++ [(b4, .cells (Eth tt).toArray 84 (0, 0))]) hzA ?_
            exact x_ret rfl (.agg inferInstance inferInstance rfl (RdPK.cels (.own meA)) lnA (.tmp rfl (.nil))) (⟨_, _, rfl, by rw [hN]; exact RVp.app hr61⟩)
          · skip
            have h58u : (mk0 l (i + 1)).b ≠ 58 := fun e => h58 (by rw [e]; rfl)
            refine c_skip ?_
            refine x_then (hK16 _ _ ?_)
            refine c_seq fun _ hK20 => ?_
            refine c_seq fun _ hK21 => ?_
            refine c_region ?_
            refine o_step rfl (s_eql rfl rfl) ?_
            refine o_step rfl (s_assign rfl) ?_
            refine o_nil ?_
            refine x_then (hK21 _ _ ?_)
            refine c_if rfl (fun h61 => ?_) (fun h61 => ?_)
            · skip
              have h61u : (mk0 l (i + 1)).b = 61 := u8_of h61
              have hN : thP l at0 i = encP l at0 i (mk0 l (i + 1)).b := by unfold thP; rw [if_neg (by omega), if_pos ⟨h91, hil1, hpl⟩, if_neg h58u, if_pos (.inl h61u)]
              refine c_exit ?_
              refine x_then_exit ?_
              refine x_then_exit ?_
              refine x_block_pass rfl ?_
              refine x_then_exit ?_
              refine x_block_exit ?_
              refine x_block ?_
              refine x_then (hK13 _ _ ?_)
              refine c_seq fun _ hK22 => ?_
              refine c_seq fun _ hK23 => ?_
              refine c_region ?_
              refine o_step rfl (s_move rfl) ?_
              refine o_step rfl (s_move rfl) ?_
              refine o_step rfl (s_move rfl) ?_
              refine o_call (enclosed_fn br la lc l at0 i (mk0 l (i + 1)).b hil1) rfl rfl rfl (by exact .nil) (fun w st => ⟨(RdPK.old0 hw.1).out w st, (RdK.old0 hw.2).out w st⟩) (fun v67 S67 ⟨tt, pv, hv67, hr67⟩ => ?_)
              subst hv67
              refine o_step rfl (s_extract rfl rfl) ?_
              refine o_step rfl (s_extract rfl rfl) ?_
              refine o_stW rfl rfl upA (eth_len _) (eth_len _) (eth_one _) ?_
              refine o_step rfl (s_assign rfl) ?_
              refine o_nil ?_
              refine x_then (hK23 _ _ ?_)
              refine c_ret ?_
              refine x_then_ret (x_block_ret (x_then_ret (?_)))
              refine x_sub (Sub.refl _) (H' := S67 ++ [(b4, .cells (Eth tt).toArray 84 (0, 0))]) hzA ?_
              exact x_ret rfl (.agg inferInstance inferInstance rfl (RdPK.cels (.own meA)) lnA (.tmp rfl (.nil))) (⟨_, _, rfl, by rw [hN]; exact RVp.app hr67⟩)
            · skip
              have h61u : (mk0 l (i + 1)).b ≠ 61 := fun e => h61 (by rw [e]; rfl)
              refine c_skip ?_
              refine x_then (hK20 _ _ ?_)
              refine c_seq fun _ hK24 => ?_
              refine c_region ?_
              refine o_step rfl (s_eql rfl rfl) ?_
              refine o_step rfl (s_assign rfl) ?_
              refine o_nil ?_
              refine x_then (hK24 _ _ ?_)
              refine c_if rfl (fun h46 => ?_) (fun h46 => ?_)
              · skip
                have h46u : (mk0 l (i + 1)).b = 46 := u8_of h46
                have hN : thP l at0 i = encP l at0 i (mk0 l (i + 1)).b := by unfold thP; rw [if_neg (by omega), if_pos ⟨h91, hil1, hpl⟩, if_neg h58u, if_pos (.inr h46u)]
                refine c_exit ?_
                refine x_then_exit ?_
                refine x_block_pass rfl ?_
                refine x_then_exit ?_
                refine x_block_pass rfl ?_
                refine x_block_exit ?_
                refine x_then (hK13 _ _ ?_)
                refine c_seq fun _ hK25 => ?_
                refine c_seq fun _ hK26 => ?_
                refine c_region ?_
                refine o_step rfl (s_move rfl) ?_
                refine o_step rfl (s_move rfl) ?_
                refine o_step rfl (s_move rfl) ?_
                refine o_call (enclosed_fn br la lc l at0 i (mk0 l (i + 1)).b hil1) rfl rfl rfl (by exact .nil) (fun w st => ⟨(RdPK.old0 hw.1).out w st, (RdK.old0 hw.2).out w st⟩) (fun v67 S67 ⟨tt, pv, hv67, hr67⟩ => ?_)
                subst hv67
                refine o_step rfl (s_extract rfl rfl) ?_
                refine o_step rfl (s_extract rfl rfl) ?_
                refine o_stW rfl rfl upA (eth_len _) (eth_len _) (eth_one _) ?_
                refine o_step rfl (s_assign rfl) ?_
                refine o_nil ?_
                refine x_then (hK26 _ _ ?_)
                refine c_ret ?_
                refine x_then_ret (x_block_ret (x_then_ret (?_)))
                refine x_sub (Sub.refl _) (H' := S67 ++ [(b4, .cells (Eth tt).toArray 84 (0, 0))]) hzA ?_
                exact x_ret rfl (.agg inferInstance inferInstance rfl (RdPK.cels (.own meA)) lnA (.tmp rfl (.nil))) (⟨_, _, rfl, by rw [hN]; exact RVp.app hr67⟩)
              · skip
                have h46u : (mk0 l (i + 1)).b ≠ 46 := fun e => h46 (by rw [e]; rfl)
                have hN : thP l at0 i = .ok (oneP l i) := by unfold thP; rw [if_neg (by omega), if_pos ⟨h91, hil1, hpl⟩, if_neg h58u, if_neg (by rintro (r | r); exact h61u r; exact h46u r)]
                refine c_skip ?_
                refine x_then (hK15 _ _ ?_)
                refine c_exit ?_
                refine x_block_pass rfl ?_
                refine x_then_exit ?_
                refine x_block_pass rfl ?_
                refine x_block_pass rfl ?_
                refine x_then_exit ?_
                refine x_block_exit ?_
                refine x_then (hK5 _ _ ?_)
                refine c_seq fun _ hK27 => ?_
                refine c_region ?_
                refine o_step rfl (s_move rfl) ?_
                refine o_step rfl (s_nil rfl) ?_
                refine o_step rfl (s_field rfl rfl (by decide)) ?_
                refine o_step rfl (s_ld rfl ((RdPK.old0 hw.1).cel (j := 0) rfl rfl)) ?_
                refine o_step rfl (s_move rfl) ?_
                refine o_step rfl (s_idx rfl rfl hsl (by omega)) ?_
                refine o_step rfl (s_field rfl rfl (by decide)) ?_
                refine o_step rfl (s_ld rfl ((RdK.old0 hw.2).ld i 0 (mk0_get hil) rfl (by decide) (by omega))) ?_
                refine o_step rfl (s_assign rfl) ?_
                refine o_nil ?_
                refine x_then (hK27 _ _ ?_)
                refine c_seq fun _ hK28 => ?_
                refine c_region ?_
                refine o_step rfl (s_move rfl) ?_
                refine o_bs (E := Eb) (xs := [(mk0 l i).b]) (vs := [_]) rfl rfl rfl rfl rfl (by decide) (by decide) fun b79 S79 hS79 => ?_
                refine o_callP (of_fn (some ⟨b79, 0, none⟩) 1 [(mk0 l i).b]) rfl rfl rfl (fun w st => (hS79.rdk hiA).out w st) (fun v80 hv80 => ?_)
                subst hv80
                refine o_step rfl (s_move rfl) ?_
                refine o_step rfl (s_move rfl) ?_
                refine o_step rfl (s_add rfl rfl (by omega)) ?_
                refine o_step rfl (step_cast (v' := .agg (Eth (oneP l i)).toArray) (s_build (cs := [_, _, _, _, _, _, _]) (vs := [_, _, _, _]) rfl rfl (.cons rfl rfl rfl rfl rfl (.cons rfl rfl rfl rfl rfl (.cons rfl rfl rfl rfl rfl (.cons rfl rfl rfl rfl rfl (.nil)))))) (rfl)) ?_
                refine o_stW rfl rfl upA (eth_len _) (eth_len _) (eth_one _) ?_
                refine o_step rfl (s_assign rfl) ?_
                refine o_nil ?_
                refine x_then (hK28 _ _ ?_)
                refine c_ret ?_
                refine ?_
                exact x_ret rfl (.agg inferInstance inferInstance rfl (RdPK.cels (.own meA)) lnA (.tmp rfl (.nil))) (⟨_, _, rfl, by rw [hN]; exact ⟨rfl, rfl⟩⟩)
      · skip
        have hN : thP l at0 i = .ok (oneP l i) := by unfold thP; rw [if_neg (by omega), if_neg (by rintro ⟨r1, r2, r3⟩; first | exact absurd r1 (by rw [h91]; decide) | omega | exact absurd r3 (by rw [hpl]; decide))]
        refine o_step rfl (step_cast (v' := .bool false) (s_lss rfl rfl) (by rw [decide_eq_false (by omega)])) ?_
        refine o_step rfl (s_pick_t rfl rfl) ?_
        refine o_step rfl (s_move rfl) ?_
        refine o_no rfl rfl rfl rfl ?_
        refine o_no rfl rfl rfl rfl ?_
        refine o_no rfl rfl rfl rfl ?_
        refine o_no rfl rfl rfl rfl ?_
        refine o_no rfl rfl rfl rfl ?_
        refine o_no rfl rfl rfl rfl ?_
        refine o_no rfl rfl rfl rfl ?_
        refine o_no rfl rfl rfl rfl ?_
        refine o_no rfl rfl rfl rfl ?_
        refine o_no rfl rfl rfl rfl ?_
        refine o_step rfl (s_pick_f rfl rfl) ?_
        refine o_nil ?_
        refine x_then (hK6 _ _ ?_)
        refine c_false rfl ?_
        refine c_skip ?_
        refine x_then (hK5 _ _ ?_)
        refine c_seq fun _ hK29 => ?_
        refine c_region ?_
        refine o_step rfl (s_move rfl) ?_
        refine o_step rfl (s_nil rfl) ?_
        refine o_step rfl (s_field rfl rfl (by decide)) ?_
        refine o_step rfl (s_ld rfl ((RdPK.old0 hw.1).cel (j := 0) rfl rfl)) ?_
        refine o_step rfl (s_move rfl) ?_
        refine o_step rfl (s_idx rfl rfl hsl (by omega)) ?_
        refine o_step rfl (s_field rfl rfl (by decide)) ?_
        refine o_step rfl (s_ld rfl ((RdK.old0 hw.2).ld i 0 (mk0_get hil) rfl (by decide) (by omega))) ?_
        refine o_step rfl (s_assign rfl) ?_
        refine o_nil ?_
        refine x_then (hK29 _ _ ?_)
        refine c_seq fun _ hK30 => ?_
        refine c_region ?_
        refine o_step rfl (s_move rfl) ?_
        refine o_bs (E := Eb) (xs := [(mk0 l i).b]) (vs := [_]) rfl rfl rfl rfl rfl (by decide) (by decide) fun b79 S79 hS79 => ?_
        refine o_callP (of_fn (some ⟨b79, 0, none⟩) 1 [(mk0 l i).b]) rfl rfl rfl (fun w st => (hS79.rdk hiA).out w st) (fun v80 hv80 => ?_)
        subst hv80
        refine o_step rfl (s_move rfl) ?_
        refine o_step rfl (s_move rfl) ?_
        refine o_step rfl (s_add rfl rfl (by omega)) ?_
        refine o_step rfl (step_cast (v' := .agg (Eth (oneP l i)).toArray) (s_build (cs := [_, _, _, _, _, _, _]) (vs := [_, _, _, _]) rfl rfl (.cons rfl rfl rfl rfl rfl (.cons rfl rfl rfl rfl rfl (.cons rfl rfl rfl rfl rfl (.cons rfl rfl rfl rfl rfl (.nil)))))) (rfl)) ?_
        refine o_stW rfl rfl upA (eth_len _) (eth_len _) (eth_one _) ?_
        refine o_step rfl (s_assign rfl) ?_
        refine o_nil ?_
        refine x_then (hK30 _ _ ?_)
        refine c_ret ?_
        refine ?_
        exact x_ret rfl (.agg inferInstance inferInstance rfl (RdPK.cels (.own meA)) lnA (.tmp rfl (.nil))) (⟨_, _, rfl, by rw [hN]; exact ⟨rfl, rfl⟩⟩)
end Go.Proofs.YtafbigmneipkiaaDoor
