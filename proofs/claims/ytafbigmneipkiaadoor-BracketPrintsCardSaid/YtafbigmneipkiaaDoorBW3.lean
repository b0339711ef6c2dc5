/- Part of the proofs over this seat: see the text that holds the theorem. Conditions: each theorem bears its own. -/
import Derived.Test.YtafbigmneipkiaaDoorHlB
import Derived.Test.YtafbigmneipkiaaDoorBW2
import Derived.Test.YtafbigmneipkiaaDoorMB5
namespace Go.Proofs.YtafbigmneipkiaaDoor
open Go Go.HL Go.Proofs Go.Tab Go.HL.Kl Go.HL.Kl.Bk
theorem item_fn (br : Nat) (la : Option Addr) (lc : Nat) (l : List Mk) (at0 : Nat) (i : Nat) (f : Bool) : HL.Fn Tryd.prog 30 [.pointer (some ⟨br, 0, none⟩), .int .i64 i, .bool f] (fun w => RdP w br 0 [.slice la l.length lc, .int .i64 at0] ∧ Rd Em w (.slice la l.length lc) l) [] (fun v S' => RV (itemP l at0 i f) v S') := by
  refine fn_of Tryd.func30 rfl rfl rfl fun w0 hw => ?_
  have hsl := hw.2.sl
  have hbl := hsl.le
  refine c_seq fun _ hK1 => ?_
  refine c_region ?_
  refine o_alloc (l := Eth zTh) (by rw [eth_zero]; rfl) rfl fun b6 => ?_
  refine o_step rfl (s_assign rfl) ?_
  refine o_nil ?_
  refine x_then (hK1 _ _ ?_)
  refine c_seq fun _ hK2 => ?_
  refine c_region ?_
  refine o_step rfl (s_move rfl) ?_
  refine o_step rfl (s_move rfl) ?_
  refine o_call (thing_fn br la lc l at0 (i)) rfl rfl rfl (by exact .nil) (fun w st => ⟨(RdPK.old0 hw.1).out w st, (RdK.old0 hw.2).out w st⟩) (fun v14 S14 ⟨tt14, pv14, hv14, hr14⟩ => ?_)
  subst hv14
  rcases hth14 : thP l at0 (i) with ta | ⟨e1, p1⟩
  · skip
    rw [hth14] at hr14
    obtain ⟨hteq14, rfl⟩ := hr14
    obtain rfl := hteq14.symm
    have hna := thP_next hth14
    refine o_step rfl (s_move rfl) ?_
    refine o_step rfl (s_extract rfl rfl) ?_
    refine o_step rfl (s_extract rfl rfl) ?_
    refine o_alloc (l := Eth zTh) (by rw [eth_zero]; rfl) rfl fun b8 => ?_
    refine o_stW rfl rfl upA (eth_len _) (eth_len _) (eth_one _) ?_
    refine o_step rfl (s_assign rfl) ?_
    refine o_nil ?_
    refine x_then (hK2 _ _ ?_)
    refine c_seq fun _ hK3 => ?_
    refine c_seq fun _ hK4 => ?_
    refine c_region ?_
    refine o_step rfl (s_move rfl) ?_
    refine o_step rfl (step_cast (v' := .bool false) (s_neq_nilp rfl rfl) rfl) ?_
    refine o_nil ?_
    refine x_then (hK4 _ _ ?_)
    refine c_false rfl ?_
    refine c_skip ?_
    refine x_then (hK3 _ _ ?_)
    refine c_seq fun _ hK5 => ?_
    refine c_seq fun _ hK6 => ?_
    refine c_region ?_
    refine o_step rfl (s_move rfl) ?_
    refine o_step rfl (s_move rfl) ?_
    refine o_callP (sign_fn br la lc l at0 (i) 45 45 (by decide)) rfl rfl rfl (fun w st => ⟨(RdPK.old0 hw.1).out w st, (RdK.old0 hw.2).out w st⟩) (fun v23 hv23 => ?_)
    subst hv23
    cases h45 : sg l (i) 45
    · skip
      have hc1 : ¬ (sg l i 45 = true ∧ f = false ∧ sg l (i + 1) 93 = false) := by rintro ⟨r, _, _⟩; rw [h45] at r; cases r
      refine o_step rfl (s_move rfl) ?_
      refine o_no rfl rfl rfl rfl ?_
      refine o_no rfl rfl rfl rfl ?_
      refine o_step rfl (s_pick_f rfl rfl) ?_
      refine o_step rfl (s_move rfl) ?_
      refine o_no rfl rfl rfl rfl ?_
      refine o_no rfl rfl rfl rfl ?_
      refine o_no rfl rfl rfl rfl ?_
      refine o_no rfl rfl rfl rfl ?_
      refine o_no rfl rfl rfl rfl ?_
      refine o_step rfl (s_pick_f rfl rfl) ?_
      refine o_nil ?_
      refine x_then (hK6 _ _ ?_)
      refine c_false rfl ?_
      refine c_skip ?_
      refine x_then (hK5 _ _ ?_)
      refine c_seq fun _ hK7 => ?_
      refine c_seq fun _ hK8 => ?_
      refine c_quiet (by kernel_rfl) ?_
      refine .op rfl (s_move rfl) ?_
      refine .op rfl (s_field rfl rfl (by decide)) ?_
      refine .op rfl (s_ld rfl (.own meA rfl)) ?_
      refine .call (fun _ _ => rfl) rfl rfl rfl (sign_fn br la lc l at0 (ta.next) 45 45 (by decide)) (fun w st => ⟨(RdPK.old0 hw.1).out w st, (RdK.old0 hw.2).out w st⟩) ?_
      cases hn45 : sg l (ta.next) 45
      · skip
        have hd : sg l ta.next 45 = false ∨ l.length ≤ ta.next + 1 ∨ sg l (ta.next + 1) 93 = true := .inl hn45
        refine .op rfl (s_not rfl) ?_
        refine .op rfl (s_move rfl) ?_
        refine .no rfl rfl rfl rfl ?_
        refine .no rfl rfl rfl rfl ?_
        refine .no rfl rfl rfl rfl ?_
        refine .no rfl rfl rfl rfl ?_
        refine .no rfl rfl rfl rfl ?_
        refine .no rfl rfl rfl rfl ?_
        refine .no rfl rfl rfl rfl ?_
        refine .no rfl rfl rfl rfl ?_
        refine .no rfl rfl rfl rfl ?_
        refine .op rfl (s_pick_t rfl rfl) ?_
        refine .op rfl (s_move rfl) ?_
        refine .no rfl rfl rfl rfl ?_
        refine .no rfl rfl rfl rfl ?_
        refine .no rfl rfl rfl rfl ?_
        refine .no rfl rfl rfl rfl ?_
        refine .no rfl rfl rfl rfl ?_
        refine .op rfl (s_pick_t rfl rfl) ?_
        refine .nil ?_
        refine x_then (hK8 _ _ ?_)
        refine c_true rfl ?_
        refine c_seq fun _ hK9 => ?_
        refine c_region ?_
        refine o_step rfl (s_ldB rfl (RdPK.cels (.own meA)) (eth_len _)) ?_
        refine o_stW rfl rfl upA (eth_len _) (eth_len _) (eth_one _) ?_
        refine o_step rfl (s_assign rfl) ?_
        refine o_nil ?_
        refine x_then (hK9 _ _ ?_)
        refine c_ret ?_
        refine x_then_ret (?_)
        exact x_ret rfl (.agg inferInstance inferInstance rfl (RdPK.cels (.own meA)) lnA (.tmp rfl (.nil))) (⟨_, _, rfl, by rw [(ItemHow.item (.one hth14 hc1 hd) : itemP l at0 i f = _)]; exact ⟨rfl, rfl⟩⟩)
      · skip
        refine .op rfl (s_not rfl) ?_
        refine .op rfl (s_move rfl) ?_
        refine .yes rfl rfl rfl (s_field rfl rfl (by decide)) ?_
        refine .yes rfl rfl rfl (s_ld rfl (.own meA rfl)) ?_
        refine .yes rfl rfl rfl (s_add rfl rfl (by omega)) ?_
        refine .yes rfl rfl rfl (s_move rfl) ?_
        refine .yes rfl rfl rfl (s_nil rfl) ?_
        refine .yes rfl rfl rfl (s_field rfl rfl (by decide)) ?_
        refine .yes rfl rfl rfl (s_ld rfl ((RdPK.old0 hw.1).cel (j := 0) rfl rfl)) ?_
        refine .yes rfl rfl rfl (s_len rfl) ?_
        by_cases hge2 : l.length ≤ ta.next + 1
        · skip
          have hd : sg l ta.next 45 = false ∨ l.length ≤ ta.next + 1 ∨ sg l (ta.next + 1) 93 = true := .inr (.inl hge2)
          refine .yes rfl rfl rfl (step_cast (v' := .bool true) (s_geq rfl rfl) (by rw [decide_eq_true (by omega)])) ?_
          refine .op rfl (s_pick_f rfl rfl) ?_
          refine .op rfl (s_move rfl) ?_
          refine .no rfl rfl rfl rfl ?_
          refine .no rfl rfl rfl rfl ?_
          refine .no rfl rfl rfl rfl ?_
          refine .no rfl rfl rfl rfl ?_
          refine .no rfl rfl rfl rfl ?_
          refine .op rfl (s_pick_t rfl rfl) ?_
          refine .nil ?_
          refine x_then (hK8 _ _ ?_)
          refine c_true rfl ?_
          refine c_seq fun _ hK10 => ?_
          refine c_region ?_
          refine o_step rfl (s_ldB rfl (RdPK.cels (.own meA)) (eth_len _)) ?_
          refine o_stW rfl rfl upA (eth_len _) (eth_len _) (eth_one _) ?_
          refine o_step rfl (s_assign rfl) ?_
          refine o_nil ?_
          refine x_then (hK10 _ _ ?_)
          refine c_ret ?_
          refine x_then_ret (?_)
          exact x_ret rfl (.agg inferInstance inferInstance rfl (RdPK.cels (.own meA)) lnA (.tmp rfl (.nil))) (⟨_, _, rfl, by rw [(ItemHow.item (.one hth14 hc1 hd) : itemP l at0 i f = _)]; exact ⟨rfl, rfl⟩⟩)
        · skip
          refine .yes rfl rfl rfl (step_cast (v' := .bool false) (s_geq rfl rfl) (by rw [decide_eq_false (by omega)])) ?_
          refine .op rfl (s_pick_f rfl rfl) ?_
          refine .op rfl (s_move rfl) ?_
          refine .yes rfl rfl rfl (s_move rfl) ?_
          refine .yes rfl rfl rfl (s_field rfl rfl (by decide)) ?_
          refine .yes rfl rfl rfl (s_ld rfl (.own meA rfl)) ?_
          refine .yes rfl rfl rfl (s_add rfl rfl (by omega)) ?_
          refine .call (fun _ fr => by rw [wanted_of fr rfl rfl rfl]; rfl) rfl rfl rfl (sign_fn br la lc l at0 (ta.next + 1) 93 93 (by decide)) (fun w st => ⟨(RdPK.old0 hw.1).out w st, (RdK.old0 hw.2).out w st⟩) ?_
          cases hn93 : sg l (ta.next + 1) 93
          · skip
            have hd2 : ¬ (sg l ta.next 45 = false ∨ l.length ≤ ta.next + 1 ∨ sg l (ta.next + 1) 93 = true) := by rintro (r | r | r); (rw [hn45] at r; cases r); omega; (rw [hn93] at r; cases r)
            refine .op rfl (s_pick_f rfl rfl) ?_
            refine .nil ?_
            refine x_then (hK8 _ _ ?_)
            refine c_false rfl ?_
            refine c_skip ?_
            refine x_then (hK7 _ _ ?_)
            refine c_seq fun _ hK11 => ?_
            refine c_seq fun _ hK12 => ?_
            refine c_region ?_
            refine o_step rfl (s_field rfl rfl (by decide)) ?_
            by_cases hea : ta.e = true
            · skip
              refine o_step rfl (step_cast (v' := .bool true) (s_ld rfl (.own meA rfl)) (by rw [hea])) ?_
              refine o_step rfl (s_not rfl) ?_
              refine o_nil ?_
              refine x_then (hK12 _ _ ?_)
              refine c_false rfl ?_
              refine c_skip ?_
              refine x_then (hK11 _ _ ?_)
              refine c_seq fun _ hK13 => ?_
              refine c_region ?_
              refine o_step rfl (s_move rfl) ?_
              refine o_step rfl (s_field rfl rfl (by decide)) ?_
              refine o_step rfl (s_ld rfl (.own meA rfl)) ?_
              refine o_step rfl (s_add rfl rfl (by omega)) ?_
              refine o_call (thing_fn br la lc l at0 (ta.next + 1)) rfl rfl rfl (by exact .nil) (fun w st => ⟨(RdPK.old0 hw.1).out w st, (RdK.old0 hw.2).out w st⟩) (fun v86 S86 ⟨tt86, pv86, hv86, hr86⟩ => ?_)
              subst hv86
              rcases hth86 : thP l at0 (ta.next + 1) with tb | ⟨e2, p2⟩
              · skip
                rw [hth86] at hr86
                obtain ⟨hteq86, rfl⟩ := hr86
                obtain rfl := hteq86.symm
                refine o_step rfl (s_move rfl) ?_
                refine o_step rfl (s_extract rfl rfl) ?_
                refine o_step rfl (s_extract rfl rfl) ?_
                refine o_alloc (l := Eth zTh) (by rw [eth_zero]; rfl) rfl fun b10 => ?_
                refine o_stW rfl rfl upA (eth_len _) (eth_len _) (eth_one _) ?_
                refine o_step rfl (s_assign rfl) ?_
                refine o_nil ?_
                refine x_then (hK13 _ _ ?_)
                refine c_seq fun _ hK14 => ?_
                refine c_seq fun _ hK15 => ?_
                refine c_region ?_
                refine o_step rfl (s_move rfl) ?_
                refine o_step rfl (step_cast (v' := .bool false) (s_neq_nilp rfl rfl) rfl) ?_
                refine o_nil ?_
                refine x_then (hK15 _ _ ?_)
                refine c_false rfl ?_
                refine c_skip ?_
                refine x_then (hK14 _ _ ?_)
                refine c_seq fun _ hK16 => ?_
                refine c_seq fun _ hK17 => ?_
                refine c_region ?_
                refine o_step rfl (s_field rfl rfl (by decide)) ?_
                by_cases heb : tb.e = true
                · skip
                  refine o_step rfl (step_cast (v' := .bool true) (s_ld rfl (.own meA rfl)) (by rw [heb])) ?_
                  refine o_step rfl (s_not rfl) ?_
                  refine o_step rfl (s_move rfl) ?_
                  refine o_yes rfl rfl ?_
                  refine o_step rfl (s_field rfl rfl (by decide)) ?_
                  refine o_yes rfl rfl ?_
                  refine o_step rfl (s_ld rfl (.own meA rfl)) ?_
                  refine o_yes rfl rfl ?_
                  refine o_step rfl (s_field rfl rfl (by decide)) ?_
                  refine o_yes rfl rfl ?_
                  refine o_step rfl (s_ld rfl (.own meA rfl)) ?_
                  refine o_yes rfl rfl ?_
                  refine o_step rfl (s_gtr rfl rfl) ?_
                  refine o_step rfl (s_pick_f rfl rfl) ?_
                  refine o_nil ?_
                  refine x_then (hK17 _ _ ?_)
                  refine c_if rfl (fun hgt => ?_) (fun hgt => ?_)
                  · skip
                    refine c_seq fun _ hK18 => ?_
                    refine c_region ?_
                    refine o_step rfl (s_ldB rfl (RdPK.cels (.own meA)) (eth_len _)) ?_
                    refine o_step rfl (s_move rfl) ?_
                    refine o_step rfl (s_build (cs := [_, _]) (vs := [_, _]) rfl rfl (.cons rfl rfl rfl rfl rfl (.cons rfl rfl rfl rfl rfl (.nil)))) ?_
                    refine o_box rfl rfl rfl fun b106 => ?_
                    refine o_stW rfl rfl upA (eth_len _) (eth_len _) (eth_one _) ?_
                    refine o_step rfl (s_assign rfl) ?_
                    refine o_nil ?_
                    refine x_then (hK18 _ _ ?_)
                    refine c_ret ?_
                    refine x_then_ret (?_)
                    refine x_sub (Sub.refl _) (H' := (b106, .cells [.int .i64 30, .int .i64 i].toArray 89 (0, 0)) :: ([(b6, .cells (Eth tb).toArray 84 (0, 0))])) hzA ?_
                    exact x_ret rfl (.agg inferInstance inferInstance rfl (RdPK.cels (.own meA)) lnA (.tmp rfl (.nil))) (⟨tb, _, rfl, by rw [show itemP l at0 i f = .bad 30 i by unfold itemP; rw [hth14]; simp only; rw [if_neg hc1, if_neg hd2, if_neg (by rw [hea]; decide), hth86]; simp only; rw [if_pos (.inr (by omega))]]; exact ⟨_, _, rfl, rfl⟩⟩)
                  · skip
                    refine c_skip ?_
                    refine x_then (hK16 _ _ ?_)
                    refine c_seq fun _ hK19 => ?_
                    refine c_drawE ([(b10, .cells (Eth tb).toArray 84 (0, 0)), (b8, .cells (Eth ta).toArray 84 (0, 0))]) (fun i => false) ?_
                    refine e_take 0 rfl (by kernel_rfl) (by kernel_rfl) (by kernel_rfl) (by kernel_rfl) (fun _ _ => rfl) rfl hzA (s_field rfl rfl (by decide)) ?_
                    refine e_take 1 rfl (by kernel_rfl) (by kernel_rfl) (by kernel_rfl) (by kernel_rfl) (fun _ _ => rfl) rfl hzA (s_ld rfl (.own meA rfl)) ?_
                    refine e_take 2 rfl (by kernel_rfl) (by kernel_rfl) (by kernel_rfl) (by kernel_rfl) (fun _ _ => rfl) rfl hzA (s_field rfl rfl (by decide)) ?_
                    refine e_take 3 rfl (by kernel_rfl) (by kernel_rfl) (by kernel_rfl) (by kernel_rfl) (fun _ _ => rfl) rfl hzA (s_ld rfl (.own meA rfl)) ?_
                    refine e_take 5 rfl (by kernel_rfl) (by kernel_rfl) (by kernel_rfl) (by kernel_rfl) (fun _ _ => rfl) rfl hzA (s_field rfl rfl (by decide)) ?_
                    refine e_take 6 rfl (by kernel_rfl) (by kernel_rfl) (by kernel_rfl) (by kernel_rfl) (fun _ _ => rfl) rfl hzA (s_ld rfl (.own meA rfl)) ?_
                    refine e_one 4 rfl (by kernel_rfl) ?_
                    refine o_callP (range_fn ta.b.toNat tb.b.toNat (by have := ta.b.toNat_lt; omega) (by have := tb.b.toNat_lt; omega)) rfl rfl rfl (fun _ _ => trivial) (fun v111 hv111 => ?_)
                    obtain ⟨cr, hcr⟩ : ∃ cr : Cl, cr = rng ta.b.toNat tb.b.toNat := ⟨_, rfl⟩
                    rw [← hcr] at hv111
                    subst hv111
                    refine o_nil ?_
                    refine x_oneS hzA ?_
                    refine e_one 7 rfl (by kernel_rfl) ?_
                    refine o_step rfl (step_cast (v' := .agg (Eth ⟨cr, 0, false, tb.next⟩).toArray) (s_build (cs := [_, _, _, _, _, _, _]) (vs := [_, _]) rfl rfl (.cons rfl rfl rfl rfl rfl (.cons rfl rfl rfl rfl rfl (.nil)))) (rfl)) ?_
                    refine o_nil ?_
                    refine x_oneS hzA ?_
                    refine e_one 8 rfl (by kernel_rfl) ?_
                    refine o_stW rfl rfl upA (eth_len _) (eth_len _) (eth_one _) ?_
                    refine o_nil ?_
                    refine x_oneS hzA ?_
                    refine e_one 9 rfl (by kernel_rfl) ?_
                    refine o_step rfl (s_assign rfl) ?_
                    refine o_nil ?_
                    refine x_oneS hzA ?_
                    refine e_done (by kernel_rfl) ?_
                    refine x_then (hK19 _ _ ?_)
                    refine c_ret ?_
                    refine ?_
                    exact x_ret rfl (.agg inferInstance inferInstance rfl (RdPK.cels (.own meA)) lnA (.tmp rfl (.nil))) (⟨_, _, rfl, by rw [(ItemHow.item (.two ta tb hth14 hc1 hn45 (by omega) hn93 hea hth86 (by rintro (r | r); (rw [heb] at r; cases r); omega) (by rw [hcr])) : itemP l at0 i f = .ok ⟨cr, 0, false, tb.next⟩)]; exact ⟨rfl, rfl⟩⟩)
                · skip
                  have heb2 : tb.e = false := by simpa using heb
                  refine o_step rfl (step_cast (v' := .bool false) (s_ld rfl (.own meA rfl)) (by rw [heb2])) ?_
                  refine o_step rfl (s_not rfl) ?_
                  refine o_step rfl (s_move rfl) ?_
                  refine o_no rfl rfl rfl rfl ?_
                  refine o_no rfl rfl rfl rfl ?_
                  refine o_no rfl rfl rfl rfl ?_
                  refine o_no rfl rfl rfl rfl ?_
                  refine o_no rfl rfl rfl rfl ?_
                  refine o_step rfl (s_pick_t rfl rfl) ?_
                  refine o_nil ?_
                  refine x_then (hK17 _ _ ?_)
                  refine c_true rfl ?_
                  refine c_seq fun _ hK20 => ?_
                  refine c_region ?_
                  refine o_step rfl (s_ldB rfl (RdPK.cels (.own meA)) (eth_len _)) ?_
                  refine o_step rfl (s_move rfl) ?_
                  refine o_step rfl (s_build (cs := [_, _]) (vs := [_, _]) rfl rfl (.cons rfl rfl rfl rfl rfl (.cons rfl rfl rfl rfl rfl (.nil)))) ?_
                  refine o_box rfl rfl rfl fun b106 => ?_
                  refine o_stW rfl rfl upA (eth_len _) (eth_len _) (eth_one _) ?_
                  refine o_step rfl (s_assign rfl) ?_
                  refine o_nil ?_
                  refine x_then (hK20 _ _ ?_)
                  refine c_ret ?_
                  refine x_then_ret (?_)
                  refine x_sub (Sub.refl _) (H' := (b106, .cells [.int .i64 30, .int .i64 i].toArray 89 (0, 0)) :: ([(b6, .cells (Eth tb).toArray 84 (0, 0))])) hzA ?_
                  exact x_ret rfl (.agg inferInstance inferInstance rfl (RdPK.cels (.own meA)) lnA (.tmp rfl (.nil))) (⟨tb, _, rfl, by rw [show itemP l at0 i f = .bad 30 i by unfold itemP; rw [hth14]; simp only; rw [if_neg hc1, if_neg hd2, if_neg (by rw [hea]; decide), hth86]; simp only; rw [if_pos (.inl heb2)]]; exact ⟨_, _, rfl, rfl⟩⟩)
              · skip
                rw [hth86] at hr86
                obtain ⟨bf86, R86, rfl, rfl⟩ := hr86
                refine o_step rfl (s_move rfl) ?_
                refine o_step rfl (s_extract rfl rfl) ?_
                refine o_step rfl (s_extract rfl rfl) ?_
                refine o_alloc (l := Eth zTh) (by rw [eth_zero]; rfl) rfl fun b10 => ?_
                refine o_stW rfl rfl upA (eth_len _) (eth_len _) (eth_one _) ?_
                refine o_step rfl (s_assign rfl) ?_
                refine o_nil ?_
                refine x_then (hK13 _ _ ?_)
                refine c_seq fun _ hK21 => ?_
                refine c_seq fun _ hK22 => ?_
                refine c_region ?_
                refine o_step rfl (s_move rfl) ?_
                refine o_step rfl (step_cast (v' := .bool true) (s_neq_nilp rfl rfl) rfl) ?_
                refine o_nil ?_
                refine x_then (hK22 _ _ ?_)
                refine c_true rfl ?_
                refine c_seq fun _ hK23 => ?_
                refine c_region ?_
                refine o_step rfl (s_ldB rfl (RdPK.cels (.own meA)) (eth_len _)) ?_
                refine o_step rfl (s_move rfl) ?_
                refine o_stW rfl rfl upA (eth_len _) (eth_len _) (eth_one _) ?_
                refine o_step rfl (s_assign rfl) ?_
                refine o_nil ?_
                refine x_then (hK23 _ _ ?_)
                refine c_ret ?_
                refine x_then_ret (?_)
                refine x_sub (Sub.refl _) (H' := (bf86, .cells [.int .i64 e2, .int .i64 p2].toArray 89 (0, 0)) :: ([(b6, .cells (Eth tt86).toArray 84 (0, 0))])) hzA ?_
                exact x_ret rfl (.agg inferInstance inferInstance rfl (RdPK.cels (.own meA)) lnA (.tmp rfl (.nil))) (⟨tt86, _, rfl, by rw [show itemP l at0 i f = .bad e2 p2 by unfold itemP; rw [hth14]; simp only; rw [if_neg hc1, if_neg hd2, if_neg (by rw [hea]; decide), hth86]]; exact ⟨_, _, rfl, rfl⟩⟩)
            · skip
              have hea2 : ta.e = false := by simpa using hea
              refine o_step rfl (step_cast (v' := .bool false) (s_ld rfl (.own meA rfl)) (by rw [hea2])) ?_
              refine o_step rfl (s_not rfl) ?_
              refine o_nil ?_
              refine x_then (hK12 _ _ ?_)
              refine c_true rfl ?_
              refine c_seq fun _ hK24 => ?_
              refine c_region ?_
              refine o_step rfl (s_ldB rfl (RdPK.cels (.own meA)) (eth_len _)) ?_
              refine o_step rfl (s_move rfl) ?_
              refine o_step rfl (s_build (cs := [_, _]) (vs := [_, _]) rfl rfl (.cons rfl rfl rfl rfl rfl (.cons rfl rfl rfl rfl rfl (.nil)))) ?_
              refine o_box rfl rfl rfl fun b80 => ?_
              refine o_stW rfl rfl upA (eth_len _) (eth_len _) (eth_one _) ?_
              refine o_step rfl (s_assign rfl) ?_
              refine o_nil ?_
              refine x_then (hK24 _ _ ?_)
              refine c_ret ?_
              refine x_then_ret (?_)
              refine x_sub (Sub.refl _) (H' := (b80, .cells [.int .i64 30, .int .i64 i].toArray 89 (0, 0)) :: ([(b6, .cells (Eth ta).toArray 84 (0, 0))])) hzA ?_
              exact x_ret rfl (.agg inferInstance inferInstance rfl (RdPK.cels (.own meA)) lnA (.tmp rfl (.nil))) (⟨ta, _, rfl, by rw [show itemP l at0 i f = .bad 30 i by unfold itemP; rw [hth14]; simp only; rw [if_neg hc1, if_neg hd2, if_pos hea2]]; exact ⟨_, _, rfl, rfl⟩⟩)
          · skip
            have hd : sg l ta.next 45 = false ∨ l.length ≤ ta.next + 1 ∨ sg l (ta.next + 1) 93 = true := .inr (.inr hn93)
            refine .op rfl (s_pick_f rfl rfl) ?_
            refine .nil ?_
            refine x_then (hK8 _ _ ?_)
            refine c_true rfl ?_
            refine c_seq fun _ hK25 => ?_
            refine c_region ?_
            refine o_step rfl (s_ldB rfl (RdPK.cels (.own meA)) (eth_len _)) ?_
            refine o_stW rfl rfl upA (eth_len _) (eth_len _) (eth_one _) ?_
            refine o_step rfl (s_assign rfl) ?_
            refine o_nil ?_
            refine x_then (hK25 _ _ ?_)
            refine c_ret ?_
            refine x_then_ret (?_)
            exact x_ret rfl (.agg inferInstance inferInstance rfl (RdPK.cels (.own meA)) lnA (.tmp rfl (.nil))) (⟨_, _, rfl, by rw [(ItemHow.item (.one hth14 hc1 hd) : itemP l at0 i f = _)]; exact ⟨rfl, rfl⟩⟩)
    · skip
      refine o_step rfl (s_move rfl) ?_
      refine o_yes rfl rfl ?_
      by_cases hft : f = true
      · skip
        have hc1 : ¬ (sg l i 45 = true ∧ f = false ∧ sg l (i + 1) 93 = false) := by rintro ⟨_, r, _⟩; rw [hft] at r; cases r
        refine o_step rfl (step_cast (v' := .bool true) (s_move rfl) (by rw [hft])) ?_
        refine o_yes rfl rfl ?_
        refine o_step rfl (s_not rfl) ?_
        refine o_step rfl (s_pick_t rfl rfl) ?_
        refine o_step rfl (s_move rfl) ?_
        refine o_no rfl rfl rfl rfl ?_
        refine o_no rfl rfl rfl rfl ?_
        refine o_no rfl rfl rfl rfl ?_
        refine o_no rfl rfl rfl rfl ?_
        refine o_no rfl rfl rfl rfl ?_
        refine o_step rfl (s_pick_f rfl rfl) ?_
        refine o_nil ?_
        refine x_then (hK6 _ _ ?_)
        refine c_false rfl ?_
        refine c_skip ?_
        refine x_then (hK5 _ _ ?_)
        refine c_seq fun _ hK26 => ?_
        refine c_seq fun _ hK27 => ?_
        refine c_quiet (by kernel_rfl) ?_
        refine .op rfl (s_move rfl) ?_
        refine .op rfl (s_field rfl rfl (by decide)) ?_
        refine .op rfl (s_ld rfl (.own meA rfl)) ?_
        refine .call (fun _ _ => rfl) rfl rfl rfl (sign_fn br la lc l at0 (ta.next) 45 45 (by decide)) (fun w st => ⟨(RdPK.old0 hw.1).out w st, (RdK.old0 hw.2).out w st⟩) ?_
        cases hn45 : sg l (ta.next) 45
        · skip
          have hd : sg l ta.next 45 = false ∨ l.length ≤ ta.next + 1 ∨ sg l (ta.next + 1) 93 = true := .inl hn45
          refine .op rfl (s_not rfl) ?_
          refine .op rfl (s_move rfl) ?_
          refine .no rfl rfl rfl rfl ?_
          refine .no rfl rfl rfl rfl ?_
          refine .no rfl rfl rfl rfl ?_
          refine .no rfl rfl rfl rfl ?_
          refine .no rfl rfl rfl rfl ?_
          refine .no rfl rfl rfl rfl ?_
          refine .no rfl rfl rfl rfl ?_
          refine .no rfl rfl rfl rfl ?_
          refine .no rfl rfl rfl rfl ?_
          refine .op rfl (s_pick_t rfl rfl) ?_
          refine .op rfl (s_move rfl) ?_
          refine .no rfl rfl rfl rfl ?_
          refine .no rfl rfl rfl rfl ?_
          refine .no rfl rfl rfl rfl ?_
          refine .no rfl rfl rfl rfl ?_
          refine .no rfl rfl rfl rfl ?_
          refine .op rfl (s_pick_t rfl rfl) ?_
          refine .nil ?_
          refine x_then (hK27 _ _ ?_)
          refine c_true rfl ?_
          refine c_seq fun _ hK28 => ?_
          refine c_region ?_
          refine o_step rfl (s_ldB rfl (RdPK.cels (.own meA)) (eth_len _)) ?_
          refine o_stW rfl rfl upA (eth_len _) (eth_len _) (eth_one _) ?_
          refine o_step rfl (s_assign rfl) ?_
          refine o_nil ?_
          refine x_then (hK28 _ _ ?_)
          refine c_ret ?_
          refine x_then_ret (?_)
          exact x_ret rfl (.agg inferInstance inferInstance rfl (RdPK.cels (.own meA)) lnA (.tmp rfl (.nil))) (⟨_, _, rfl, by rw [(ItemHow.item (.one hth14 hc1 hd) : itemP l at0 i f = _)]; exact ⟨rfl, rfl⟩⟩)
        · skip
          refine .op rfl (s_not rfl) ?_
          refine .op rfl (s_move rfl) ?_
          refine .yes rfl rfl rfl (s_field rfl rfl (by decide)) ?_
          refine .yes rfl rfl rfl (s_ld rfl (.own meA rfl)) ?_
          refine .yes rfl rfl rfl (s_add rfl rfl (by omega)) ?_
          refine .yes rfl rfl rfl (s_move rfl) ?_
          refine .yes rfl rfl rfl (s_nil rfl) ?_
          refine .yes rfl rfl rfl (s_field rfl rfl (by decide)) ?_
          refine .yes rfl rfl rfl (s_ld rfl ((RdPK.old0 hw.1).cel (j := 0) rfl rfl)) ?_
          refine .yes rfl rfl rfl (s_len rfl) ?_
          by_cases hge2 : l.length ≤ ta.next + 1
          · skip
            have hd : sg l ta.next 45 = false ∨ l.length ≤ ta.next + 1 ∨ sg l (ta.next + 1) 93 = true := .inr (.inl hge2)
            refine .yes rfl rfl rfl (step_cast (v' := .bool true) (s_geq rfl rfl) (by rw [decide_eq_true (by omega)])) ?_
            refine .op rfl (s_pick_f rfl rfl) ?_
            refine .op rfl (s_move rfl) ?_
            refine .no rfl rfl rfl rfl ?_
            refine .no rfl rfl rfl rfl ?_
            refine .no rfl rfl rfl rfl ?_
            refine .no rfl rfl rfl rfl ?_
            refine .no rfl rfl rfl rfl ?_
            refine .op rfl (s_pick_t rfl rfl) ?_
            refine .nil ?_
            refine x_then (hK27 _ _ ?_)
            refine c_true rfl ?_
            refine c_seq fun _ hK29 => ?_
            refine c_region ?_
            refine o_step rfl (s_ldB rfl (RdPK.cels (.own meA)) (eth_len _)) ?_
            refine o_stW rfl rfl upA (eth_len _) (eth_len _) (eth_one _) ?_
            refine o_step rfl (s_assign rfl) ?_
            refine o_nil ?_
            refine x_then (hK29 _ _ ?_)
            refine c_ret ?_
            refine x_then_ret (?_)
            exact x_ret rfl (.agg inferInstance inferInstance rfl (RdPK.cels (.own meA)) lnA (.tmp rfl (.nil))) (⟨_, _, rfl, by rw [(ItemHow.item (.one hth14 hc1 hd) : itemP l at0 i f = _)]; exact ⟨rfl, rfl⟩⟩)
          · skip
            refine .yes rfl rfl rfl (step_cast (v' := .bool false) (s_geq rfl rfl) (by rw [decide_eq_false (by omega)])) ?_
            refine .op rfl (s_pick_f rfl rfl) ?_
            refine .op rfl (s_move rfl) ?_
            refine .yes rfl rfl rfl (s_move rfl) ?_
            refine .yes rfl rfl rfl (s_field rfl rfl (by decide)) ?_
            refine .yes rfl rfl rfl (s_ld rfl (.own meA rfl)) ?_
            refine .yes rfl rfl rfl (s_add rfl rfl (by omega)) ?_
            refine .call (fun _ fr => by rw [wanted_of fr rfl rfl rfl]; rfl) rfl rfl rfl (sign_fn br la lc l at0 (ta.next + 1) 93 93 (by decide)) (fun w st => ⟨(RdPK.old0 hw.1).out w st, (RdK.old0 hw.2).out w st⟩) ?_
            cases hn93 : sg l (ta.next + 1) 93
            · skip
              have hd2 : ¬ (sg l ta.next 45 = false ∨ l.length ≤ ta.next + 1 ∨ sg l (ta.next + 1) 93 = true) := by rintro (r | r | r); (rw [hn45] at r; cases r); omega; (rw [hn93] at r; cases r)
              refine .op rfl (s_pick_f rfl rfl) ?_
              refine .nil ?_
              refine x_then (hK27 _ _ ?_)
              refine c_false rfl ?_
              refine c_skip ?_
              refine x_then (hK26 _ _ ?_)
              refine c_seq fun _ hK30 => ?_
              refine c_seq fun _ hK31 => ?_
              refine c_region ?_
              refine o_step rfl (s_field rfl rfl (by decide)) ?_
              by_cases hea : ta.e = true
              · skip
                refine o_step rfl (step_cast (v' := .bool true) (s_ld rfl (.own meA rfl)) (by rw [hea])) ?_
                refine o_step rfl (s_not rfl) ?_
                refine o_nil ?_
                refine x_then (hK31 _ _ ?_)
                refine c_false rfl ?_
                refine c_skip ?_
                refine x_then (hK30 _ _ ?_)
                refine c_seq fun _ hK32 => ?_
                refine c_region ?_
                refine o_step rfl (s_move rfl) ?_
                refine o_step rfl (s_field rfl rfl (by decide)) ?_
                refine o_step rfl (s_ld rfl (.own meA rfl)) ?_
                refine o_step rfl (s_add rfl rfl (by omega)) ?_
                refine o_call (thing_fn br la lc l at0 (ta.next + 1)) rfl rfl rfl (by exact .nil) (fun w st => ⟨(RdPK.old0 hw.1).out w st, (RdK.old0 hw.2).out w st⟩) (fun v86 S86 ⟨tt86, pv86, hv86, hr86⟩ => ?_)
                subst hv86
                rcases hth86 : thP l at0 (ta.next + 1) with tb | ⟨e2, p2⟩
                · skip
                  rw [hth86] at hr86
                  obtain ⟨hteq86, rfl⟩ := hr86
                  obtain rfl := hteq86.symm
                  refine o_step rfl (s_move rfl) ?_
                  refine o_step rfl (s_extract rfl rfl) ?_
                  refine o_step rfl (s_extract rfl rfl) ?_
                  refine o_alloc (l := Eth zTh) (by rw [eth_zero]; rfl) rfl fun b10 => ?_
                  refine o_stW rfl rfl upA (eth_len _) (eth_len _) (eth_one _) ?_
                  refine o_step rfl (s_assign rfl) ?_
                  refine o_nil ?_
                  refine x_then (hK32 _ _ ?_)
                  refine c_seq fun _ hK33 => ?_
                  refine c_seq fun _ hK34 => ?_
                  refine c_region ?_
                  refine o_step rfl (s_move rfl) ?_
                  refine o_step rfl (step_cast (v' := .bool false) (s_neq_nilp rfl rfl) rfl) ?_
                  refine o_nil ?_
                  refine x_then (hK34 _ _ ?_)
                  refine c_false rfl ?_
                  refine c_skip ?_
                  refine x_then (hK33 _ _ ?_)
                  refine c_seq fun _ hK35 => ?_
                  refine c_seq fun _ hK36 => ?_
                  refine c_region ?_
                  refine o_step rfl (s_field rfl rfl (by decide)) ?_
                  by_cases heb : tb.e = true
                  · skip
                    refine o_step rfl (step_cast (v' := .bool true) (s_ld rfl (.own meA rfl)) (by rw [heb])) ?_
                    refine o_step rfl (s_not rfl) ?_
                    refine o_step rfl (s_move rfl) ?_
                    refine o_yes rfl rfl ?_
                    refine o_step rfl (s_field rfl rfl (by decide)) ?_
                    refine o_yes rfl rfl ?_
                    refine o_step rfl (s_ld rfl (.own meA rfl)) ?_
                    refine o_yes rfl rfl ?_
                    refine o_step rfl (s_field rfl rfl (by decide)) ?_
                    refine o_yes rfl rfl ?_
                    refine o_step rfl (s_ld rfl (.own meA rfl)) ?_
                    refine o_yes rfl rfl ?_
                    refine o_step rfl (s_gtr rfl rfl) ?_
                    refine o_step rfl (s_pick_f rfl rfl) ?_
                    refine o_nil ?_
                    refine x_then (hK36 _ _ ?_)
                    refine c_if rfl (fun hgt => ?_) (fun hgt => ?_)
                    · skip
                      refine c_seq fun _ hK37 => ?_
                      refine c_region ?_
                      refine o_step rfl (s_ldB rfl (RdPK.cels (.own meA)) (eth_len _)) ?_
                      refine o_step rfl (s_move rfl) ?_
                      refine o_step rfl (s_build (cs := [_, _]) (vs := [_, _]) rfl rfl (.cons rfl rfl rfl rfl rfl (.cons rfl rfl rfl rfl rfl (.nil)))) ?_
                      refine o_box rfl rfl rfl fun b106 => ?_
                      refine o_stW rfl rfl upA (eth_len _) (eth_len _) (eth_one _) ?_
                      refine o_step rfl (s_assign rfl) ?_
                      refine o_nil ?_
                      refine x_then (hK37 _ _ ?_)
                      refine c_ret ?_
                      refine x_then_ret (?_)
                      refine x_sub (Sub.refl _) (H' := (b106, .cells [.int .i64 30, .int .i64 i].toArray 89 (0, 0)) :: ([(b6, .cells (Eth tb).toArray 84 (0, 0))])) hzA ?_
                      exact x_ret rfl (.agg inferInstance inferInstance rfl (RdPK.cels (.own meA)) lnA (.tmp rfl (.nil))) (⟨tb, _, rfl, by rw [show itemP l at0 i f = .bad 30 i by unfold itemP; rw [hth14]; simp only; rw [if_neg hc1, if_neg hd2, if_neg (by rw [hea]; decide), hth86]; simp only; rw [if_pos (.inr (by omega))]]; exact ⟨_, _, rfl, rfl⟩⟩)
                    · skip
                      refine c_skip ?_
                      refine x_then (hK35 _ _ ?_)
                      refine c_seq fun _ hK38 => ?_
                      refine c_drawE ([(b10, .cells (Eth tb).toArray 84 (0, 0)), (b8, .cells (Eth ta).toArray 84 (0, 0))]) (fun i => false) ?_
                      refine e_take 0 rfl (by kernel_rfl) (by kernel_rfl) (by kernel_rfl) (by kernel_rfl) (fun _ _ => rfl) rfl hzA (s_field rfl rfl (by decide)) ?_
                      refine e_take 1 rfl (by kernel_rfl) (by kernel_rfl) (by kernel_rfl) (by kernel_rfl) (fun _ _ => rfl) rfl hzA (s_ld rfl (.own meA rfl)) ?_
                      refine e_take 2 rfl (by kernel_rfl) (by kernel_rfl) (by kernel_rfl) (by kernel_rfl) (fun _ _ => rfl) rfl hzA (s_field rfl rfl (by decide)) ?_
                      refine e_take 3 rfl (by kernel_rfl) (by kernel_rfl) (by kernel_rfl) (by kernel_rfl) (fun _ _ => rfl) rfl hzA (s_ld rfl (.own meA rfl)) ?_
                      refine e_take 5 rfl (by kernel_rfl) (by kernel_rfl) (by kernel_rfl) (by kernel_rfl) (fun _ _ => rfl) rfl hzA (s_field rfl rfl (by decide)) ?_
                      refine e_take 6 rfl (by kernel_rfl) (by kernel_rfl) (by kernel_rfl) (by kernel_rfl) (fun _ _ => rfl) rfl hzA (s_ld rfl (.own meA rfl)) ?_
                      refine e_one 4 rfl (by kernel_rfl) ?_
                      refine o_callP (range_fn ta.b.toNat tb.b.toNat (by have := ta.b.toNat_lt; omega) (by have := tb.b.toNat_lt; omega)) rfl rfl rfl (fun _ _ => trivial) (fun v111 hv111 => ?_)
                      obtain ⟨cr, hcr⟩ : ∃ cr : Cl, cr = rng ta.b.toNat tb.b.toNat := ⟨_, rfl⟩
                      rw [← hcr] at hv111
                      subst hv111
                      refine o_nil ?_
                      refine x_oneS hzA ?_
                      refine e_one 7 rfl (by kernel_rfl) ?_
                      refine o_step rfl (step_cast (v' := .agg (Eth ⟨cr, 0, false, tb.next⟩).toArray) (s_build (cs := [_, _, _, _, _, _, _]) (vs := [_, _]) rfl rfl (.cons rfl rfl rfl rfl rfl (.cons rfl rfl rfl rfl rfl (.nil)))) (rfl)) ?_
                      refine o_nil ?_
                      refine x_oneS hzA ?_
                      refine e_one 8 rfl (by kernel_rfl) ?_
                      refine o_stW rfl rfl upA (eth_len _) (eth_len _) (eth_one _) ?_
                      refine o_nil ?_
                      refine x_oneS hzA ?_
                      refine e_one 9 rfl (by kernel_rfl) ?_
                      refine o_step rfl (s_assign rfl) ?_
                      refine o_nil ?_
                      refine x_oneS hzA ?_
                      refine e_done (by kernel_rfl) ?_
                      refine x_then (hK38 _ _ ?_)
                      refine c_ret ?_
                      refine ?_
                      exact x_ret rfl (.agg inferInstance inferInstance rfl (RdPK.cels (.own meA)) lnA (.tmp rfl (.nil))) (⟨_, _, rfl, by rw [(ItemHow.item (.two ta tb hth14 hc1 hn45 (by omega) hn93 hea hth86 (by rintro (r | r); (rw [heb] at r; cases r); omega) (by rw [hcr])) : itemP l at0 i f = .ok ⟨cr, 0, false, tb.next⟩)]; exact ⟨rfl, rfl⟩⟩)
                  · skip
                    have heb2 : tb.e = false := by simpa using heb
                    refine o_step rfl (step_cast (v' := .bool false) (s_ld rfl (.own meA rfl)) (by rw [heb2])) ?_
                    refine o_step rfl (s_not rfl) ?_
                    refine o_step rfl (s_move rfl) ?_
                    refine o_no rfl rfl rfl rfl ?_
                    refine o_no rfl rfl rfl rfl ?_
                    refine o_no rfl rfl rfl rfl ?_
                    refine o_no rfl rfl rfl rfl ?_
                    refine o_no rfl rfl rfl rfl ?_
                    refine o_step rfl (s_pick_t rfl rfl) ?_
                    refine o_nil ?_
                    refine x_then (hK36 _ _ ?_)
                    refine c_true rfl ?_
                    refine c_seq fun _ hK39 => ?_
                    refine c_region ?_
                    refine o_step rfl (s_ldB rfl (RdPK.cels (.own meA)) (eth_len _)) ?_
                    refine o_step rfl (s_move rfl) ?_
                    refine o_step rfl (s_build (cs := [_, _]) (vs := [_, _]) rfl rfl (.cons rfl rfl rfl rfl rfl (.cons rfl rfl rfl rfl rfl (.nil)))) ?_
                    refine o_box rfl rfl rfl fun b106 => ?_
                    refine o_stW rfl rfl upA (eth_len _) (eth_len _) (eth_one _) ?_
                    refine o_step rfl (s_assign rfl) ?_
                    refine o_nil ?_
                    refine x_then (hK39 _ _ ?_)
                    refine c_ret ?_
                    refine x_then_ret (?_)
                    refine x_sub (Sub.refl _) (H' := (b106, .cells [.int .i64 30, .int .i64 i].toArray 89 (0, 0)) :: ([(b6, .cells (Eth tb).toArray 84 (0, 0))])) hzA ?_
                    exact x_ret rfl (.agg inferInstance inferInstance rfl (RdPK.cels (.own meA)) lnA (.tmp rfl (.nil))) (⟨tb, _, rfl, by rw [show itemP l at0 i f = .bad 30 i by unfold itemP; rw [hth14]; simp only; rw [if_neg hc1, if_neg hd2, if_neg (by rw [hea]; decide), hth86]; simp only; rw [if_pos (.inl heb2)]]; exact ⟨_, _, rfl, rfl⟩⟩)
                · skip
                  rw [hth86] at hr86
                  obtain ⟨bf86, R86, rfl, rfl⟩ := hr86
                  refine o_step rfl (s_move rfl) ?_
                  refine o_step rfl (s_extract rfl rfl) ?_
                  refine o_step rfl (s_extract rfl rfl) ?_
                  refine o_alloc (l := Eth zTh) (by rw [eth_zero]; rfl) rfl fun b10 => ?_
                  refine o_stW rfl rfl upA (eth_len _) (eth_len _) (eth_one _) ?_
                  refine o_step rfl (s_assign rfl) ?_
                  refine o_nil ?_
                  refine x_then (hK32 _ _ ?_)
                  refine c_seq fun _ hK40 => ?_
                  refine c_seq fun _ hK41 => ?_
                  refine c_region ?_
                  refine o_step rfl (s_move rfl) ?_
                  refine o_step rfl (step_cast (v' := .bool true) (s_neq_nilp rfl rfl) rfl) ?_
                  refine o_nil ?_
                  refine x_then (hK41 _ _ ?_)
                  refine c_true rfl ?_
                  refine c_seq fun _ hK42 => ?_
                  refine c_region ?_
                  refine o_step rfl (s_ldB rfl (RdPK.cels (.own meA)) (eth_len _)) ?_
                  refine o_step rfl (s_move rfl) ?_
                  refine o_stW rfl rfl upA (eth_len _) (eth_len _) (eth_one _) ?_
                  refine o_step rfl (s_assign rfl) ?_
                  refine o_nil ?_
                  refine x_then (hK42 _ _ ?_)
                  refine c_ret ?_
                  refine x_then_ret (?_)
                  refine x_sub (Sub.refl _) (H' := (bf86, .cells [.int .i64 e2, .int .i64 p2].toArray 89 (0, 0)) :: ([(b6, .cells (Eth tt86).toArray 84 (0, 0))])) hzA ?_
                  exact x_ret rfl (.agg inferInstance inferInstance rfl (RdPK.cels (.own meA)) lnA (.tmp rfl (.nil))) (⟨tt86, _, rfl, by rw [show itemP l at0 i f = .bad e2 p2 by unfold itemP; rw [hth14]; simp only; rw [if_neg hc1, if_neg hd2, if_neg (by rw [hea]; decide), hth86]]; exact ⟨_, _, rfl, rfl⟩⟩)
              · skip
                have hea2 : ta.e = false := by simpa using hea
                refine o_step rfl (step_cast (v' := .bool false) (s_ld rfl (.own meA rfl)) (by rw [hea2])) ?_
                refine o_step rfl (s_not rfl) ?_
                refine o_nil ?_
                refine x_then (hK31 _ _ ?_)
                refine c_true rfl ?_
                refine c_seq fun _ hK43 => ?_
                refine c_region ?_
                refine o_step rfl (s_ldB rfl (RdPK.cels (.own meA)) (eth_len _)) ?_
                refine o_step rfl (s_move rfl) ?_
                refine o_step rfl (s_build (cs := [_, _]) (vs := [_, _]) rfl rfl (.cons rfl rfl rfl rfl rfl (.cons rfl rfl rfl rfl rfl (.nil)))) ?_
                refine o_box rfl rfl rfl fun b80 => ?_
                refine o_stW rfl rfl upA (eth_len _) (eth_len _) (eth_one _) ?_
                refine o_step rfl (s_assign rfl) ?_
                refine o_nil ?_
                refine x_then (hK43 _ _ ?_)
                refine c_ret ?_
                refine x_then_ret (?_)
                refine x_sub (Sub.refl _) (H' := (b80, .cells [.int .i64 30, .int .i64 i].toArray 89 (0, 0)) :: ([(b6, .cells (Eth ta).toArray 84 (0, 0))])) hzA ?_
                exact x_ret rfl (.agg inferInstance inferInstance rfl (RdPK.cels (.own meA)) lnA (.tmp rfl (.nil))) (⟨ta, _, rfl, by rw [show itemP l at0 i f = .bad 30 i by unfold itemP; rw [hth14]; simp only; rw [if_neg hc1, if_neg hd2, if_pos hea2]]; exact ⟨_, _, rfl, rfl⟩⟩)
            · skip
              have hd : sg l ta.next 45 = false ∨ l.length ≤ ta.next + 1 ∨ sg l (ta.next + 1) 93 = true := .inr (.inr hn93)
              refine .op rfl (s_pick_f rfl rfl) ?_
              refine .nil ?_
              refine x_then (hK27 _ _ ?_)
              refine c_true rfl ?_
              refine c_seq fun _ hK44 => ?_
              refine c_region ?_
              refine o_step rfl (s_ldB rfl (RdPK.cels (.own meA)) (eth_len _)) ?_
              refine o_stW rfl rfl upA (eth_len _) (eth_len _) (eth_one _) ?_
              refine o_step rfl (s_assign rfl) ?_
              refine o_nil ?_
              refine x_then (hK44 _ _ ?_)
              refine c_ret ?_
              refine x_then_ret (?_)
              exact x_ret rfl (.agg inferInstance inferInstance rfl (RdPK.cels (.own meA)) lnA (.tmp rfl (.nil))) (⟨_, _, rfl, by rw [(ItemHow.item (.one hth14 hc1 hd) : itemP l at0 i f = _)]; exact ⟨rfl, rfl⟩⟩)
      · skip
        have hff : f = false := by simpa using hft
        refine o_step rfl (step_cast (v' := .bool false) (s_move rfl) (by rw [hff])) ?_
        refine o_yes rfl rfl ?_
        refine o_step rfl (s_not rfl) ?_
        refine o_step rfl (s_pick_t rfl rfl) ?_
        refine o_step rfl (s_move rfl) ?_
        refine o_yes rfl rfl ?_
        refine o_step rfl (s_move rfl) ?_
        refine o_yes rfl rfl ?_
        refine o_step rfl (s_move rfl) ?_
        refine o_yes rfl rfl ?_
        refine o_step rfl (s_add rfl rfl (by omega)) ?_
        refine o_yes rfl rfl ?_
        refine o_callP (sign_fn br la lc l at0 (i + 1) 93 93 (by decide)) rfl rfl rfl (fun w st => ⟨(RdPK.old0 hw.1).out w st, (RdK.old0 hw.2).out w st⟩) (fun v32 hv32 => ?_)
        subst hv32
        cases h93 : sg l (i + 1) 93
        · skip
          have hc2 : sg l i 45 = true ∧ f = false ∧ sg l (i + 1) 93 = false := ⟨h45, hff, h93⟩
          refine o_yes rfl rfl ?_
          refine o_step rfl (s_not rfl) ?_
          refine o_step rfl (s_pick_t rfl rfl) ?_
          refine o_nil ?_
          refine x_then (hK6 _ _ ?_)
          refine c_true rfl ?_
          refine c_seq fun _ hK45 => ?_
          refine c_seq fun _ hK46 => ?_
          refine c_region ?_
          refine o_step rfl (s_move rfl) ?_
          refine o_step rfl (s_add rfl rfl (by omega)) ?_
          refine o_step rfl (s_move rfl) ?_
          refine o_step rfl (s_nil rfl) ?_
          refine o_step rfl (s_field rfl rfl (by decide)) ?_
          refine o_step rfl (s_ld rfl ((RdPK.old0 hw.1).cel (j := 0) rfl rfl)) ?_
          refine o_step rfl (s_len rfl) ?_
          refine o_step rfl (s_geq rfl rfl) ?_
          refine o_nil ?_
          refine x_then (hK46 _ _ ?_)
          refine c_if rfl (fun hge => ?_) (fun hge => ?_)
          · skip
            refine c_seq fun _ hK47 => ?_
            refine c_drawE ([(b8, .cells (Eth ta).toArray 84 (0, 0))]) (fun i => false) ?_
            refine e_take 0 rfl (by kernel_rfl) (by kernel_rfl) (by kernel_rfl) (by kernel_rfl) (fun _ _ => rfl) rfl hzA (s_ldB rfl (RdPK.cels (.own meA)) (eth_len _)) ?_
            refine e_take 1 rfl (by kernel_rfl) (by kernel_rfl) (by kernel_rfl) (by kernel_rfl) (fun _ _ => rfl) rfl hzA (s_move rfl) ?_
            refine e_one 2 rfl (by kernel_rfl) ?_
            refine o_call (open_fn br la lc l at0) rfl rfl rfl (by exact .nil) (fun w st => ⟨(RdPK.old0 hw.1).out w st, (RdK.old0 hw.2).out w st⟩) (fun v45 S45 ⟨bf, hv45, hS45⟩ => ?_)
            subst hv45
            subst hS45
            refine o_nil ?_
            refine x_oneS hzA ?_
            refine e_one 3 rfl (by kernel_rfl) ?_
            refine o_stW rfl rfl upA (eth_len _) (eth_len _) (eth_one _) ?_
            refine o_nil ?_
            refine x_oneS hzA ?_
            refine e_one 4 rfl (by kernel_rfl) ?_
            refine o_step rfl (s_assign rfl) ?_
            refine o_nil ?_
            refine x_oneS hzA ?_
            refine e_done (by kernel_rfl) ?_
            refine x_then (hK47 _ _ ?_)
            refine c_ret ?_
            refine x_then_ret (x_then_ret (?_))
            refine x_sub (Sub.refl _) (H' := (bf, .cells [.int .i64 32, .int .i64 at0].toArray 89 (0, 0)) :: ([(b6, .cells (Eth ta).toArray 84 (0, 0))])) hzA ?_
            exact x_ret rfl (.agg inferInstance inferInstance rfl (RdPK.cels (.own meA)) lnA (.tmp rfl (.nil))) (⟨ta, _, rfl, by rw [show itemP l at0 i f = .bad 32 at0 by unfold itemP; rw [hth14]; simp only; rw [if_pos hc2, if_pos (by omega)]]; exact ⟨_, _, rfl, rfl⟩⟩)
          · skip
            refine c_skip ?_
            refine x_then (hK45 _ _ ?_)
            refine c_seq fun _ hK48 => ?_
            refine c_region ?_
            refine o_step rfl (s_ldB rfl (RdPK.cels (.own meA)) (eth_len _)) ?_
            refine o_step rfl (s_move rfl) ?_
            refine o_step rfl (s_build (cs := [_, _]) (vs := [_, _]) rfl rfl (.cons rfl rfl rfl rfl rfl (.cons rfl rfl rfl rfl rfl (.nil)))) ?_
            refine o_box rfl rfl rfl fun b49 => ?_
            refine o_stW rfl rfl upA (eth_len _) (eth_len _) (eth_one _) ?_
            refine o_step rfl (s_assign rfl) ?_
            refine o_nil ?_
            refine x_then (hK48 _ _ ?_)
            refine c_ret ?_
            refine x_then_ret (?_)
            refine x_sub (Sub.refl _) (H' := (b49, .cells [.int .i64 30, .int .i64 i].toArray 89 (0, 0)) :: ([(b6, .cells (Eth ta).toArray 84 (0, 0))])) hzA ?_
            exact x_ret rfl (.agg inferInstance inferInstance rfl (RdPK.cels (.own meA)) lnA (.tmp rfl (.nil))) (⟨ta, _, rfl, by rw [show itemP l at0 i f = .bad 30 i by unfold itemP; rw [hth14]; simp only; rw [if_pos hc2, if_neg (by omega)]]; exact ⟨_, _, rfl, rfl⟩⟩)
        · skip
          have hc1 : ¬ (sg l i 45 = true ∧ f = false ∧ sg l (i + 1) 93 = false) := by rintro ⟨_, _, r⟩; rw [h93] at r; cases r
          refine o_yes rfl rfl ?_
          refine o_step rfl (s_not rfl) ?_
          refine o_step rfl (s_pick_t rfl rfl) ?_
          refine o_nil ?_
          refine x_then (hK6 _ _ ?_)
          refine c_false rfl ?_
          refine c_skip ?_
          refine x_then (hK5 _ _ ?_)
          refine c_seq fun _ hK49 => ?_
          refine c_seq fun _ hK50 => ?_
          refine c_quiet (by kernel_rfl) ?_
          refine .op rfl (s_move rfl) ?_
          refine .op rfl (s_field rfl rfl (by decide)) ?_
          refine .op rfl (s_ld rfl (.own meA rfl)) ?_
          refine .call (fun _ _ => rfl) rfl rfl rfl (sign_fn br la lc l at0 (ta.next) 45 45 (by decide)) (fun w st => ⟨(RdPK.old0 hw.1).out w st, (RdK.old0 hw.2).out w st⟩) ?_
          cases hn45 : sg l (ta.next) 45
          · skip
            have hd : sg l ta.next 45 = false ∨ l.length ≤ ta.next + 1 ∨ sg l (ta.next + 1) 93 = true := .inl hn45
            refine .op rfl (s_not rfl) ?_
            refine .op rfl (s_move rfl) ?_
            refine .no rfl rfl rfl rfl ?_
            refine .no rfl rfl rfl rfl ?_
            refine .no rfl rfl rfl rfl ?_
            refine .no rfl rfl rfl rfl ?_
            refine .no rfl rfl rfl rfl ?_
            refine .no rfl rfl rfl rfl ?_
            refine .no rfl rfl rfl rfl ?_
            refine .no rfl rfl rfl rfl ?_
            refine .no rfl rfl rfl rfl ?_
            refine .op rfl (s_pick_t rfl rfl) ?_
            refine .op rfl (s_move rfl) ?_
            refine .no rfl rfl rfl rfl ?_
            refine .no rfl rfl rfl rfl ?_
            refine .no rfl rfl rfl rfl ?_
            refine .no rfl rfl rfl rfl ?_
            refine .no rfl rfl rfl rfl ?_
            refine .op rfl (s_pick_t rfl rfl) ?_
            refine .nil ?_
            refine x_then (hK50 _ _ ?_)
            refine c_true rfl ?_
            refine c_seq fun _ hK51 => ?_
            refine c_region ?_
            refine o_step rfl (s_ldB rfl (RdPK.cels (.own meA)) (eth_len _)) ?_
            refine o_stW rfl rfl upA (eth_len _) (eth_len _) (eth_one _) ?_
            refine o_step rfl (s_assign rfl) ?_
            refine o_nil ?_
            refine x_then (hK51 _ _ ?_)
            refine c_ret ?_
            refine x_then_ret (?_)
            exact x_ret rfl (.agg inferInstance inferInstance rfl (RdPK.cels (.own meA)) lnA (.tmp rfl (.nil))) (⟨_, _, rfl, by rw [(ItemHow.item (.one hth14 hc1 hd) : itemP l at0 i f = _)]; exact ⟨rfl, rfl⟩⟩)
          · skip
            refine .op rfl (s_not rfl) ?_
            refine .op rfl (s_move rfl) ?_
            refine .yes rfl rfl rfl (s_field rfl rfl (by decide)) ?_
            refine .yes rfl rfl rfl (s_ld rfl (.own meA rfl)) ?_
            refine .yes rfl rfl rfl (s_add rfl rfl (by omega)) ?_
            refine .yes rfl rfl rfl (s_move rfl) ?_
            refine .yes rfl rfl rfl (s_nil rfl) ?_
            refine .yes rfl rfl rfl (s_field rfl rfl (by decide)) ?_
            refine .yes rfl rfl rfl (s_ld rfl ((RdPK.old0 hw.1).cel (j := 0) rfl rfl)) ?_
            refine .yes rfl rfl rfl (s_len rfl) ?_
            by_cases hge2 : l.length ≤ ta.next + 1
            · skip
              have hd : sg l ta.next 45 = false ∨ l.length ≤ ta.next + 1 ∨ sg l (ta.next + 1) 93 = true := .inr (.inl hge2)
              refine .yes rfl rfl rfl (step_cast (v' := .bool true) (s_geq rfl rfl) (by rw [decide_eq_true (by omega)])) ?_
              refine .op rfl (s_pick_f rfl rfl) ?_
              refine .op rfl (s_move rfl) ?_
              refine .no rfl rfl rfl rfl ?_
              refine .no rfl rfl rfl rfl ?_
              refine .no rfl rfl rfl rfl ?_
              refine .no rfl rfl rfl rfl ?_
              refine .no rfl rfl rfl rfl ?_
              refine .op rfl (s_pick_t rfl rfl) ?_
              refine .nil ?_
              refine x_then (hK50 _ _ ?_)
              refine c_true rfl ?_
              refine c_seq fun _ hK52 => ?_
              refine c_region ?_
              refine o_step rfl (s_ldB rfl (RdPK.cels (.own meA)) (eth_len _)) ?_
              refine o_stW rfl rfl upA (eth_len _) (eth_len _) (eth_one _) ?_
              refine o_step rfl (s_assign rfl) ?_
              refine o_nil ?_
              refine x_then (hK52 _ _ ?_)
              refine c_ret ?_
              refine x_then_ret (?_)
              exact x_ret rfl (.agg inferInstance inferInstance rfl (RdPK.cels (.own meA)) lnA (.tmp rfl (.nil))) (⟨_, _, rfl, by rw [(ItemHow.item (.one hth14 hc1 hd) : itemP l at0 i f = _)]; exact ⟨rfl, rfl⟩⟩)
            · skip
              refine .yes rfl rfl rfl (step_cast (v' := .bool false) (s_geq rfl rfl) (by rw [decide_eq_false (by omega)])) ?_
              refine .op rfl (s_pick_f rfl rfl) ?_
              refine .op rfl (s_move rfl) ?_
              refine .yes rfl rfl rfl (s_move rfl) ?_
              refine .yes rfl rfl rfl (s_field rfl rfl (by decide)) ?_
              refine .yes rfl rfl rfl (s_ld rfl (.own meA rfl)) ?_
              refine .yes rfl rfl rfl (s_add rfl rfl (by omega)) ?_
              refine .call (fun _ fr => by rw [wanted_of fr rfl rfl rfl]; rfl) rfl rfl rfl (sign_fn br la lc l at0 (ta.next + 1) 93 93 (by decide)) (fun w st => ⟨(RdPK.old0 hw.1).out w st, (RdK.old0 hw.2).out w st⟩) ?_
              cases hn93 : sg l (ta.next + 1) 93
              · skip
                have hd2 : ¬ (sg l ta.next 45 = false ∨ l.length ≤ ta.next + 1 ∨ sg l (ta.next + 1) 93 = true) := by rintro (r | r | r); (rw [hn45] at r; cases r); omega; (rw [hn93] at r; cases r)
                refine .op rfl (s_pick_f rfl rfl) ?_
                refine .nil ?_
                refine x_then (hK50 _ _ ?_)
                refine c_false rfl ?_
                refine c_skip ?_
                refine x_then (hK49 _ _ ?_)
                refine c_seq fun _ hK53 => ?_
                refine c_seq fun _ hK54 => ?_
                refine c_region ?_
                refine o_step rfl (s_field rfl rfl (by decide)) ?_
                by_cases hea : ta.e = true
                · skip
                  refine o_step rfl (step_cast (v' := .bool true) (s_ld rfl (.own meA rfl)) (by rw [hea])) ?_
                  refine o_step rfl (s_not rfl) ?_
                  refine o_nil ?_
                  refine x_then (hK54 _ _ ?_)
                  refine c_false rfl ?_
                  refine c_skip ?_
                  refine x_then (hK53 _ _ ?_)
                  refine c_seq fun _ hK55 => ?_
                  refine c_region ?_
                  refine o_step rfl (s_move rfl) ?_
                  refine o_step rfl (s_field rfl rfl (by decide)) ?_
                  refine o_step rfl (s_ld rfl (.own meA rfl)) ?_
                  refine o_step rfl (s_add rfl rfl (by omega)) ?_
                  refine o_call (thing_fn br la lc l at0 (ta.next + 1)) rfl rfl rfl (by exact .nil) (fun w st => ⟨(RdPK.old0 hw.1).out w st, (RdK.old0 hw.2).out w st⟩) (fun v86 S86 ⟨tt86, pv86, hv86, hr86⟩ => ?_)
                  subst hv86
                  rcases hth86 : thP l at0 (ta.next + 1) with tb | ⟨e2, p2⟩
                  · skip
                    rw [hth86] at hr86
                    obtain ⟨hteq86, rfl⟩ := hr86
                    obtain rfl := hteq86.symm
                    refine o_step rfl (s_move rfl) ?_
                    refine o_step rfl (s_extract rfl rfl) ?_
                    refine o_step rfl (s_extract rfl rfl) ?_
                    refine o_alloc (l := Eth zTh) (by rw [eth_zero]; rfl) rfl fun b10 => ?_
                    refine o_stW rfl rfl upA (eth_len _) (eth_len _) (eth_one _) ?_
                    refine o_step rfl (s_assign rfl) ?_
                    refine o_nil ?_
                    refine x_then (hK55 _ _ ?_)
                    refine c_seq fun _ hK56 => ?_
                    refine c_seq fun _ hK57 => ?_
                    refine c_region ?_
                    refine o_step rfl (s_move rfl) ?_
                    refine o_step rfl (step_cast (v' := .bool false) (s_neq_nilp rfl rfl) rfl) ?_
                    refine o_nil ?_
                    refine x_then (hK57 _ _ ?_)
                    refine c_false rfl ?_
                    refine c_skip ?_
                    refine x_then (hK56 _ _ ?_)
                    refine c_seq fun _ hK58 => ?_
                    refine c_seq fun _ hK59 => ?_
                    refine c_region ?_
                    refine o_step rfl (s_field rfl rfl (by decide)) ?_
                    by_cases heb : tb.e = true
                    · skip
                      refine o_step rfl (step_cast (v' := .bool true) (s_ld rfl (.own meA rfl)) (by rw [heb])) ?_
                      refine o_step rfl (s_not rfl) ?_
                      refine o_step rfl (s_move rfl) ?_
                      refine o_yes rfl rfl ?_
                      refine o_step rfl (s_field rfl rfl (by decide)) ?_
                      refine o_yes rfl rfl ?_
                      refine o_step rfl (s_ld rfl (.own meA rfl)) ?_
                      refine o_yes rfl rfl ?_
                      refine o_step rfl (s_field rfl rfl (by decide)) ?_
                      refine o_yes rfl rfl ?_
                      refine o_step rfl (s_ld rfl (.own meA rfl)) ?_
                      refine o_yes rfl rfl ?_
                      refine o_step rfl (s_gtr rfl rfl) ?_
                      refine o_step rfl (s_pick_f rfl rfl) ?_
                      refine o_nil ?_
                      refine x_then (hK59 _ _ ?_)
                      refine c_if rfl (fun hgt => ?_) (fun hgt => ?_)
                      · skip
                        refine c_seq fun _ hK60 => ?_
                        refine c_region ?_
                        refine o_step rfl (s_ldB rfl (RdPK.cels (.own meA)) (eth_len _)) ?_
                        refine o_step rfl (s_move rfl) ?_
                        refine o_step rfl (s_build (cs := [_, _]) (vs := [_, _]) rfl rfl (.cons rfl rfl rfl rfl rfl (.cons rfl rfl rfl rfl rfl (.nil)))) ?_
                        refine o_box rfl rfl rfl fun b106 => ?_
                        refine o_stW rfl rfl upA (eth_len _) (eth_len _) (eth_one _) ?_
                        refine o_step rfl (s_assign rfl) ?_
                        refine o_nil ?_
                        refine x_then (hK60 _ _ ?_)
                        refine c_ret ?_
                        refine x_then_ret (?_)
                        refine x_sub (Sub.refl _) (H' := (b106, .cells [.int .i64 30, .int .i64 i].toArray 89 (0, 0)) :: ([(b6, .cells (Eth tb).toArray 84 (0, 0))])) hzA ?_
                        exact x_ret rfl (.agg inferInstance inferInstance rfl (RdPK.cels (.own meA)) lnA (.tmp rfl (.nil))) (⟨tb, _, rfl, by rw [show itemP l at0 i f = .bad 30 i by unfold itemP; rw [hth14]; simp only; rw [if_neg hc1, if_neg hd2, if_neg (by rw [hea]; decide), hth86]; simp only; rw [if_pos (.inr (by omega))]]; exact ⟨_, _, rfl, rfl⟩⟩)
                      · skip
                        refine c_skip ?_
                        refine x_then (hK58 _ _ ?_)
                        refine c_seq fun _ hK61 => ?_
                        refine c_drawE ([(b10, .cells (Eth tb).toArray 84 (0, 0)), (b8, .cells (Eth ta).toArray 84 (0, 0))]) (fun i => false) ?_
                        refine e_take 0 rfl (by kernel_rfl) (by kernel_rfl) (by kernel_rfl) (by kernel_rfl) (fun _ _ => rfl) rfl hzA (s_field rfl rfl (by decide)) ?_
                        refine e_take 1 rfl (by kernel_rfl) (by kernel_rfl) (by kernel_rfl) (by kernel_rfl) (fun _ _ => rfl) rfl hzA (s_ld rfl (.own meA rfl)) ?_
                        refine e_take 2 rfl (by kernel_rfl) (by kernel_rfl) (by kernel_rfl) (by kernel_rfl) (fun _ _ => rfl) rfl hzA (s_field rfl rfl (by decide)) ?_
                        refine e_take 3 rfl (by kernel_rfl) (by kernel_rfl) (by kernel_rfl) (by kernel_rfl) (fun _ _ => rfl) rfl hzA (s_ld rfl (.own meA rfl)) ?_
                        refine e_take 5 rfl (by kernel_rfl) (by kernel_rfl) (by kernel_rfl) (by kernel_rfl) (fun _ _ => rfl) rfl hzA (s_field rfl rfl (by decide)) ?_
                        refine e_take 6 rfl (by kernel_rfl) (by kernel_rfl) (by kernel_rfl) (by kernel_rfl) (fun _ _ => rfl) rfl hzA (s_ld rfl (.own meA rfl)) ?_
                        refine e_one 4 rfl (by kernel_rfl) ?_
                        refine o_callP (range_fn ta.b.toNat tb.b.toNat (by have := ta.b.toNat_lt; omega) (by have := tb.b.toNat_lt; omega)) rfl rfl rfl (fun _ _ => trivial) (fun v111 hv111 => ?_)
                        obtain ⟨cr, hcr⟩ : ∃ cr : Cl, cr = rng ta.b.toNat tb.b.toNat := ⟨_, rfl⟩
                        rw [← hcr] at hv111
                        subst hv111
                        refine o_nil ?_
                        refine x_oneS hzA ?_
                        refine e_one 7 rfl (by kernel_rfl) ?_
                        refine o_step rfl (step_cast (v' := .agg (Eth ⟨cr, 0, false, tb.next⟩).toArray) (s_build (cs := [_, _, _, _, _, _, _]) (vs := [_, _]) rfl rfl (.cons rfl rfl rfl rfl rfl (.cons rfl rfl rfl rfl rfl (.nil)))) (rfl)) ?_
                        refine o_nil ?_
                        refine x_oneS hzA ?_
                        refine e_one 8 rfl (by kernel_rfl) ?_
                        refine o_stW rfl rfl upA (eth_len _) (eth_len _) (eth_one _) ?_
                        refine o_nil ?_
                        refine x_oneS hzA ?_
                        refine e_one 9 rfl (by kernel_rfl) ?_
                        refine o_step rfl (s_assign rfl) ?_
                        refine o_nil ?_
                        refine x_oneS hzA ?_
                        refine e_done (by kernel_rfl) ?_
                        refine x_then (hK61 _ _ ?_)
                        refine c_ret ?_
                        refine ?_
                        exact x_ret rfl (.agg inferInstance inferInstance rfl (RdPK.cels (.own meA)) lnA (.tmp rfl (.nil))) (⟨_, _, rfl, by rw [(ItemHow.item (.two ta tb hth14 hc1 hn45 (by omega) hn93 hea hth86 (by rintro (r | r); (rw [heb] at r; cases r); omega) (by rw [hcr])) : itemP l at0 i f = .ok ⟨cr, 0, false, tb.next⟩)]; exact ⟨rfl, rfl⟩⟩)
                    · skip
                      have heb2 : tb.e = false := by simpa using heb
                      refine o_step rfl (step_cast (v' := .bool false) (s_ld rfl (.own meA rfl)) (by rw [heb2])) ?_
                      refine o_step rfl (s_not rfl) ?_
                      refine o_step rfl (s_move rfl) ?_
                      refine o_no rfl rfl rfl rfl ?_
                      refine o_no rfl rfl rfl rfl ?_
                      refine o_no rfl rfl rfl rfl ?_
                      refine o_no rfl rfl rfl rfl ?_
                      refine o_no rfl rfl rfl rfl ?_
                      refine o_step rfl (s_pick_t rfl rfl) ?_
                      refine o_nil ?_
                      refine x_then (hK59 _ _ ?_)
                      refine c_true rfl ?_
                      refine c_seq fun _ hK62 => ?_
                      refine c_region ?_
                      refine o_step rfl (s_ldB rfl (RdPK.cels (.own meA)) (eth_len _)) ?_
                      refine o_step rfl (s_move rfl) ?_
                      refine o_step rfl (s_build (cs := [_, _]) (vs := [_, _]) rfl rfl (.cons rfl rfl rfl rfl rfl (.cons rfl rfl rfl rfl rfl (.nil)))) ?_
                      refine o_box rfl rfl rfl fun b106 => ?_
                      refine o_stW rfl rfl upA (eth_len _) (eth_len _) (eth_one _) ?_
                      refine o_step rfl (s_assign rfl) ?_
                      refine o_nil ?_
                      refine x_then (hK62 _ _ ?_)
                      refine c_ret ?_
                      refine x_then_ret (?_)
                      refine x_sub (Sub.refl _) (H' := (b106, .cells [.int .i64 30, .int .i64 i].toArray 89 (0, 0)) :: ([(b6, .cells (Eth tb).toArray 84 (0, 0))])) hzA ?_
                      exact x_ret rfl (.agg inferInstance inferInstance rfl (RdPK.cels (.own meA)) lnA (.tmp rfl (.nil))) (⟨tb, _, rfl, by rw [show itemP l at0 i f = .bad 30 i by unfold itemP; rw [hth14]; simp only; rw [if_neg hc1, if_neg hd2, if_neg (by rw [hea]; decide), hth86]; simp only; rw [if_pos (.inl heb2)]]; exact ⟨_, _, rfl, rfl⟩⟩)
                  · skip
                    rw [hth86] at hr86
                    obtain ⟨bf86, R86, rfl, rfl⟩ := hr86
                    refine o_step rfl (s_move rfl) ?_
                    refine o_step rfl (s_extract rfl rfl) ?_
                    refine o_step rfl (s_extract rfl rfl) ?_
                    refine o_alloc (l := Eth zTh) (by rw [eth_zero]; rfl) rfl fun b10 => ?_
                    refine o_stW rfl rfl upA (eth_len _) (eth_len _) (eth_one _) ?_
                    refine o_step rfl (s_assign rfl) ?_
                    refine o_nil ?_
                    refine x_then (hK55 _ _ ?_)
                    refine c_seq fun _ hK63 => ?_
                    refine c_seq fun _ hK64 => ?_
                    refine c_region ?_
                    refine o_step rfl (s_move rfl) ?_
                    refine o_step rfl (step_cast (v' := .bool true) (s_neq_nilp rfl rfl) rfl) ?_
                    refine o_nil ?_
                    refine x_then (hK64 _ _ ?_)
                    refine c_true rfl ?_
                    refine c_seq fun _ hK65 => ?_
                    refine c_region ?_
                    refine o_step rfl (s_ldB rfl (RdPK.cels (.own meA)) (eth_len _)) ?_
                    refine o_step rfl (s_move rfl) ?_
                    refine o_stW rfl rfl upA (eth_len _) (eth_len _) (eth_one _) ?_
                    refine o_step rfl (s_assign rfl) ?_
                    refine o_nil ?_
                    refine x_then (hK65 _ _ ?_)
                    refine c_ret ?_
                    refine x_then_ret (?_)
                    refine x_sub (Sub.refl _) (H' := (bf86, .cells [.int .i64 e2, .int .i64 p2].toArray 89 (0, 0)) :: ([(b6, .cells (Eth tt86).toArray 84 (0, 0))])) hzA ?_
                    exact x_ret rfl (.agg inferInstance inferInstance rfl (RdPK.cels (.own meA)) lnA (.tmp rfl (.nil))) (⟨tt86, _, rfl, by rw [show itemP l at0 i f = .bad e2 p2 by unfold itemP; rw [hth14]; simp only; rw [if_neg hc1, if_neg hd2, if_neg (by rw [hea]; decide), hth86]]; exact ⟨_, _, rfl, rfl⟩⟩)
                · skip
                  have hea2 : ta.e = false := by simpa using hea
                  refine o_step rfl (step_cast (v' := .bool false) (s_ld rfl (.own meA rfl)) (by rw [hea2])) ?_
                  refine o_step rfl (s_not rfl) ?_
                  refine o_nil ?_
                  refine x_then (hK54 _ _ ?_)
                  refine c_true rfl ?_
                  refine c_seq fun _ hK66 => ?_
                  refine c_region ?_
                  refine o_step rfl (s_ldB rfl (RdPK.cels (.own meA)) (eth_len _)) ?_
                  refine o_step rfl (s_move rfl) ?_
                  refine o_step rfl (s_build (cs := [_, _]) (vs := [_, _]) rfl rfl (.cons rfl rfl rfl rfl rfl (.cons rfl rfl rfl rfl rfl (.nil)))) ?_
                  refine o_box rfl rfl rfl fun b80 => ?_
                  refine o_stW rfl rfl upA (eth_len _) (eth_len _) (eth_one _) ?_
                  refine o_step rfl (s_assign rfl) ?_
                  refine o_nil ?_
                  refine x_then (hK66 _ _ ?_)
                  refine c_ret ?_
                  refine x_then_ret (?_)
                  refine x_sub (Sub.refl _) (H' := (b80, .cells [.int .i64 30, .int .i64 i].toArray 89 (0, 0)) :: ([(b6, .cells (Eth ta).toArray 84 (0, 0))])) hzA ?_
                  exact x_ret rfl (.agg inferInstance inferInstance rfl (RdPK.cels (.own meA)) lnA (.tmp rfl (.nil))) (⟨ta, _, rfl, by rw [show itemP l at0 i f = .bad 30 i by unfold itemP; rw [hth14]; simp only; rw [if_neg hc1, if_neg hd2, if_pos hea2]]; exact ⟨_, _, rfl, rfl⟩⟩)
              · skip
                have hd : sg l ta.next 45 = false ∨ l.length ≤ ta.next + 1 ∨ sg l (ta.next + 1) 93 = true := .inr (.inr hn93)
                refine .op rfl (s_pick_f rfl rfl) ?_
                refine .nil ?_
                refine x_then (hK50 _ _ ?_)
                refine c_true rfl ?_
                refine c_seq fun _ hK67 => ?_
                refine c_region ?_
                refine o_step rfl (s_ldB rfl (RdPK.cels (.own meA)) (eth_len _)) ?_
                refine o_stW rfl rfl upA (eth_len _) (eth_len _) (eth_one _) ?_
                refine o_step rfl (s_assign rfl) ?_
                refine o_nil ?_
                refine x_then (hK67 _ _ ?_)
                refine c_ret ?_
                refine x_then_ret (?_)
                exact x_ret rfl (.agg inferInstance inferInstance rfl (RdPK.cels (.own meA)) lnA (.tmp rfl (.nil))) (⟨_, _, rfl, by rw [(ItemHow.item (.one hth14 hc1 hd) : itemP l at0 i f = _)]; exact ⟨rfl, rfl⟩⟩)
  · skip
    rw [hth14] at hr14
    obtain ⟨bf14, R14, rfl, rfl⟩ := hr14
    refine o_step rfl (s_move rfl) ?_
    refine o_step rfl (s_extract rfl rfl) ?_
    refine o_step rfl (s_extract rfl rfl) ?_
    refine o_alloc (l := Eth zTh) (by rw [eth_zero]; rfl) rfl fun b8 => ?_
    refine o_stW rfl rfl upA (eth_len _) (eth_len _) (eth_one _) ?_
    refine o_step rfl (s_assign rfl) ?_
    refine o_nil ?_
    refine x_then (hK2 _ _ ?_)
    refine c_seq fun _ hK68 => ?_
    refine c_seq fun _ hK69 => ?_
    refine c_region ?_
    refine o_step rfl (s_move rfl) ?_
    refine o_step rfl (step_cast (v' := .bool true) (s_neq_nilp rfl rfl) rfl) ?_
    refine o_nil ?_
    refine x_then (hK69 _ _ ?_)
    refine c_true rfl ?_
    refine c_seq fun _ hK70 => ?_
    refine c_region ?_
    refine o_step rfl (s_ldB rfl (RdPK.cels (.own meA)) (eth_len _)) ?_
    refine o_step rfl (s_move rfl) ?_
    refine o_stW rfl rfl upA (eth_len _) (eth_len _) (eth_one _) ?_
    refine o_step rfl (s_assign rfl) ?_
    refine o_nil ?_
    refine x_then (hK70 _ _ ?_)
    refine c_ret ?_
    refine x_then_ret (?_)
    refine x_sub (Sub.refl _) (H' := (bf14, .cells [.int .i64 e1, .int .i64 p1].toArray 89 (0, 0)) :: ([(b6, .cells (Eth tt14).toArray 84 (0, 0))])) hzA ?_
    exact x_ret rfl (.agg inferInstance inferInstance rfl (RdPK.cels (.own meA)) lnA (.tmp rfl (.nil))) (⟨tt14, _, rfl, by rw [show itemP l at0 i f = .bad e1 p1 by unfold itemP; rw [hth14]]; exact ⟨_, _, rfl, rfl⟩⟩)
end Go.Proofs.YtafbigmneipkiaaDoor
