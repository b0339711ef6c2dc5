/- Part of the proofs over this seat: see the text that holds the theorem. Conditions: each theorem bears its own. -/
import Derived.Test.YtafbigmneipkiaaDoorHlB
import Derived.Test.YtafbigmneipkiaaDoorBW2
import Derived.Test.YtafbigmneipkiaaDoorMB9
namespace Go.Proofs.YtafbigmneipkiaaDoor
open Go Go.HL Go.Proofs Go.Tab Go.HL.Kl Go.HL.Kl.Bk
theorem sg_is {l : List Mk} {i : Nat} {b : UInt8} (h : i < l.length) (hp : (mk0 l i).p = false) (hb : (mk0 l i).b = b) : sg l i b = true := by
  rw [sg_at h]; refine decide_eq_true ?_
  cases hm : mk0 l i
  rw [hm] at hp hb; simp only at hp hb; rw [hp, hb]
theorem sg_not {l : List Mk} {i : Nat} {b : UInt8} (h : i < l.length) (hp : (mk0 l i).p = true ∨ (mk0 l i).b ≠ b) : sg l i b = false := by
  rw [sg_at h]; refine decide_eq_false fun e => ?_
  rw [e] at hp; rcases hp with hp | hp
  · cases hp
  · exact hp rfl
theorem rSign_fn (la : Option Addr) (lc : Nat) (l : List Mk) (i : Nat) (b : UInt8) (n : Int) (hn : n = b.toNat) : HL.Fn Tryd.prog 31 [.slice la l.length lc, .int .i64 i, .int .u8 n] (fun w => Rd Em w (.slice la l.length lc) l) [] (fun v _ => v = .bool (sg l i b)) := by
  refine fn_of Tryd.func31 rfl rfl rfl fun w0 hw => ?_
  subst hn
  have hsl := hw.sl
  have hbl := hsl.le
  refine c_seq fun _ hK1 => ?_
  refine c_region ?_
  refine o_step rfl (s_assign rfl) ?_
  refine o_nil ?_
  refine x_then (hK1 _ _ ?_)
  refine c_seq fun _ hK2 => ?_
  refine c_region ?_
  refine o_step rfl (s_move rfl) ?_
  refine o_step rfl (s_geq_t rfl rfl (by omega)) ?_
  refine o_step rfl (s_move rfl) ?_
  refine o_yes rfl rfl ?_
  refine o_step rfl (s_move rfl) ?_
  refine o_yes rfl rfl ?_
  refine o_step rfl (s_move rfl) ?_
  refine o_yes rfl rfl ?_
  refine o_step rfl (s_len rfl) ?_
  refine o_yes rfl rfl ?_
  by_cases hil : i < l.length
  · skip
    refine o_step rfl (step_cast (v' := .bool true) (s_lss rfl rfl) (by rw [decide_eq_true (by omega)])) ?_
    refine o_step rfl (s_pick_t rfl rfl) ?_
    refine o_step rfl (s_move rfl) ?_
    refine o_yes rfl rfl ?_
    refine o_step rfl (s_move rfl) ?_
    refine o_yes rfl rfl ?_
    refine o_step rfl (s_move rfl) ?_
    refine o_yes rfl rfl ?_
    refine o_step rfl (s_idx rfl rfl hsl (by omega)) ?_
    refine o_yes rfl rfl ?_
    refine o_step rfl (s_field rfl rfl (by decide)) ?_
    refine o_yes rfl rfl ?_
    refine o_step rfl (s_ld rfl ((RdK.old0 hw).ld i 1 (mk0_get hil) rfl (by decide) (by omega))) ?_
    refine o_yes rfl rfl ?_
    by_cases hp : (mk0 l i).p = false
    · skip
      refine o_step rfl (step_cast (v' := .bool true) (s_not rfl) (by rw [hp]; rfl)) ?_
      refine o_step rfl (s_pick_t rfl rfl) ?_
      refine o_step rfl (s_move rfl) ?_
      refine o_yes rfl rfl ?_
      refine o_step rfl (s_move rfl) ?_
      refine o_yes rfl rfl ?_
      refine o_step rfl (s_move rfl) ?_
      refine o_yes rfl rfl ?_
      refine o_step rfl (s_idx rfl rfl hsl (by omega)) ?_
      refine o_yes rfl rfl ?_
      refine o_step rfl (s_field rfl rfl (by decide)) ?_
      refine o_yes rfl rfl ?_
      refine o_step rfl (s_ld rfl ((RdK.old0 hw).ld i 0 (mk0_get hil) rfl (by decide) (by omega))) ?_
      refine o_yes rfl rfl ?_
      refine o_step rfl (s_move rfl) ?_
      refine o_yes rfl rfl ?_
      by_cases hb : ((mk0 l i).b.toNat : Int) = b.toNat
      · skip
        refine o_step rfl (step_cast (v' := .bool true) (s_eql rfl rfl) (by rw [decide_eq_true (by omega)])) ?_
        refine o_step rfl (s_pick_t rfl rfl) ?_
        refine o_step rfl (s_assign rfl) ?_
        refine o_nil ?_
        refine x_then (hK2 _ _ ?_)
        refine c_ret ?_
        refine ?_
        exact x_ret rfl (.tmp rfl (.nil)) (by rw [sg_is hil hp (UInt8.toNat_inj.1 (by omega))]; rfl)
      · skip
        refine o_step rfl (step_cast (v' := .bool false) (s_eql rfl rfl) (by rw [decide_eq_false (by omega)])) ?_
        refine o_step rfl (s_pick_t rfl rfl) ?_
        refine o_step rfl (s_assign rfl) ?_
        refine o_nil ?_
        refine x_then (hK2 _ _ ?_)
        refine c_ret ?_
        refine ?_
        exact x_ret rfl (.tmp rfl (.nil)) (by rw [sg_not hil (.inr fun e => hb (by rw [e]))]; rfl)
    · skip
      have hp2 : (mk0 l i).p = true := by simpa using hp
      refine o_step rfl (step_cast (v' := .bool false) (s_not rfl) (by rw [hp2]; rfl)) ?_
      refine o_step rfl (s_pick_t rfl rfl) ?_
      refine o_step rfl (s_move rfl) ?_
      refine o_no rfl rfl rfl rfl ?_
      refine o_no rfl rfl rfl rfl ?_
      refine o_no rfl rfl rfl rfl ?_
      refine o_no rfl rfl rfl rfl ?_
      refine o_no rfl rfl rfl rfl ?_
      refine o_no rfl rfl rfl rfl ?_
      refine o_no rfl rfl rfl rfl ?_
      refine o_step rfl (s_pick_f rfl rfl) ?_
      refine o_step rfl (s_assign rfl) ?_
      refine o_nil ?_
      refine x_then (hK2 _ _ ?_)
      refine c_ret ?_
      refine ?_
      exact x_ret rfl (.tmp rfl (.nil)) (by rw [sg_not hil (.inl hp2)]; rfl)
  · skip
    refine o_step rfl (step_cast (v' := .bool false) (s_lss rfl rfl) (by rw [decide_eq_false (by omega)])) ?_
    refine o_step rfl (s_pick_t rfl rfl) ?_
    refine o_step rfl (s_move rfl) ?_
    refine o_no rfl rfl rfl rfl ?_
    refine o_no rfl rfl rfl rfl ?_
    refine o_no rfl rfl rfl rfl ?_
    refine o_no rfl rfl rfl rfl ?_
    refine o_no rfl rfl rfl rfl ?_
    refine o_no rfl rfl rfl rfl ?_
    refine o_step rfl (s_pick_f rfl rfl) ?_
    refine o_step rfl (s_move rfl) ?_
    refine o_no rfl rfl rfl rfl ?_
    refine o_no rfl rfl rfl rfl ?_
    refine o_no rfl rfl rfl rfl ?_
    refine o_no rfl rfl rfl rfl ?_
    refine o_no rfl rfl rfl rfl ?_
    refine o_no rfl rfl rfl rfl ?_
    refine o_no rfl rfl rfl rfl ?_
    refine o_step rfl (s_pick_f rfl rfl) ?_
    refine o_step rfl (s_assign rfl) ?_
    refine o_nil ?_
    refine x_then (hK2 _ _ ?_)
    refine c_ret ?_
    refine ?_
    exact x_ret rfl (.tmp rfl (.nil)) (by rw [sg_ge (by omega)]; rfl)

set_option maxHeartbeats 1000000 in
theorem rThing_fn (la : Option Addr) (lc : Nat) (l : List Mk) (i : Nat) : HL.Fn Tryd.prog 66 [.slice la l.length lc, .int .i64 i] (fun w => Rd Em w (.slice la l.length lc) l) [] (fun v _ => v = .agg (Ert (thV l i)).toArray) := by
  refine fn_of Tryd.func66 rfl rfl rfl fun w0 hw => ?_
  have hsl := hw.sl
  have hbl := hsl.le
  refine c_seq fun _ hK1 => ?_
  refine c_region ?_
  refine o_alloc (l := Ert zRt) (by rw [ert_zero]; rfl) rfl fun b4 => ?_
  refine o_nil ?_
  refine x_then (hK1 _ _ ?_)
  refine c_seq fun _ hK2 => ?_
  refine c_seq fun _ hK3 => ?_
  refine c_region ?_
  refine o_step rfl (s_move rfl) ?_
  refine o_step rfl (s_move rfl) ?_
  refine o_step rfl (s_len rfl) ?_
  refine o_step rfl (s_geq rfl rfl) ?_
  refine o_nil ?_
  refine x_then (hK3 _ _ ?_)
  refine c_if rfl (fun hge => ?_) (fun hge => ?_)
  · skip
    have hN : thP l i i = .bad 32 i := thP_past (by omega)
    refine c_seq fun _ hK4 => ?_
    refine c_region ?_
    refine o_step rfl (s_move rfl) ?_
    refine o_step rfl (step_cast (v' := .agg (Ert (badR i 32)).toArray) (s_build (cs := [_, _, _, _, _, _, _, _, _, _]) (vs := [_, _]) rfl rfl (.cons rfl rfl rfl rfl rfl (.cons rfl rfl rfl rfl rfl (.nil)))) (by first | rfl | (simp only [Ert, badR, okR, Ec_zero]; rfl))) ?_
    refine o_stW rfl rfl upA (ert_len _) (ert_len _) (ert_one _) ?_
    refine o_nil ?_
    refine x_then (hK4 _ _ ?_)
    refine c_ret ?_
    refine x_then_ret (?_)
    exact x_ret rfl (.agg inferInstance inferInstance rfl (RdPK.cels (.own meA)) (ert_len _) (.nil)) (by unfold thV; rw [hN]; rfl)
  · skip
    have hil : i < l.length := by omega
    refine c_skip ?_
    refine x_then (hK2 _ _ ?_)
    refine c_seqJ (ι := Unit) (fun g => sg l i 91 = true → sg l (i + 1) 58 = false) (fun g => []) [(0, _), (1, _), (4, _)] (fun g => [(b4, .cells (Ert zRt).toArray 92 (0, 0))]) sbA ?_ ?_
    · rintro g hJ0
      refine c_seq fun _ hK6 => ?_
      refine c_seqJ (ι := Bool) (fun b => (b = true → sg l i 91 = true ∧ ∃ y : UInt8, sg l (i + 1) y = true ∧ (y = 61 ∨ y = 46)) ∧ (b = false → thP l i i = .ok (oneP l i))) (fun b => [(82, .bool b)]) [(0, _), (1, _), (4, _)] (fun b => [(b4, .cells (Ert zRt).toArray 92 (0, 0))]) sbA ?_ ?_
      · rintro b hJ
        refine c_cond rfl (fun h82 => ?_) (fun h82 => ?_)
        · skip
          obtain ⟨h91, y, hy, hy2⟩ := hJ.1 h82
          have hi1l := sg_lt hy
          have hyb : (mk0 l (i + 1)).b = y := by rw [sg_mk hy]
          refine c_seq fun _ hK8 => ?_
          refine c_region ?_
          refine o_step rfl (s_move rfl) ?_
          refine o_step rfl (s_move rfl) ?_
          refine o_step rfl (s_add rfl rfl (by omega)) ?_
          refine o_step rfl (s_idx rfl rfl hsl (by omega)) ?_
          refine o_step rfl (s_field rfl rfl (by decide)) ?_
          refine o_step rfl (step_cast (v' := .int .u8 y.toNat) (s_ld rfl ((RdK.old0 hw).ld (i + 1) 0 (mk0_get hi1l) rfl (by decide) (by omega))) (by rw [hyb])) ?_
          refine o_step rfl (s_assign rfl) ?_
          refine o_nil ?_
          refine x_then (hK8 _ _ ?_)
          refine c_seq fun _ hK9 => ?_
          refine c_seq fun _ hK10 => ?_
          refine c_region ?_
          refine o_step rfl (s_move rfl) ?_
          refine o_step rfl (s_add rfl rfl (by omega)) ?_
          refine o_step rfl (s_move rfl) ?_
          refine o_step rfl (s_len rfl) ?_
          by_cases hl3 : i + 3 < l.length
          · skip
            refine o_step rfl (step_cast (v' := .bool true) (s_lss rfl rfl) (by rw [decide_eq_true (by omega)])) ?_
            refine o_step rfl (s_move rfl) ?_
            refine o_yes rfl rfl ?_
            refine o_step rfl (s_move rfl) ?_
            refine o_yes rfl rfl ?_
            refine o_step rfl (s_move rfl) ?_
            refine o_yes rfl rfl ?_
            refine o_step rfl (s_add rfl rfl (by omega)) ?_
            refine o_yes rfl rfl ?_
            refine o_step rfl (s_move rfl) ?_
            refine o_yes rfl rfl ?_
            refine o_callP (rSign_fn la lc l (i + 3) y _ rfl) rfl rfl rfl (fun w st => (RdK.old0 hw).out w st) (fun v99 hv99 => ?_)
            subst hv99
            cases s3 : sg l (i + 3) y
            · skip
              have hN : thP l i i = .bad 31 i := by rw [thP_encl h91 hy hy2]; unfold encP; rw [if_neg (by omega), if_pos s3]
              refine o_yes rfl rfl ?_
              refine o_step rfl (s_not rfl) ?_
              refine o_step rfl (s_pick_t rfl rfl) ?_
              refine o_step rfl (s_move rfl) ?_
              refine o_no rfl rfl rfl rfl ?_
              refine o_no rfl rfl rfl rfl ?_
              refine o_no rfl rfl rfl rfl ?_
              refine o_no rfl rfl rfl rfl ?_
              refine o_no rfl rfl rfl rfl ?_
              refine o_no rfl rfl rfl rfl ?_
              refine o_noU rfl rfl rfl ?_
              refine o_noU rfl rfl rfl ?_
              refine o_noU rfl rfl rfl ?_
              refine o_noU rfl rfl rfl ?_
              refine o_noU rfl rfl rfl ?_
              refine o_no rfl rfl rfl rfl ?_
              refine o_step rfl (s_pick_t rfl rfl) ?_
              refine o_nil ?_
              refine x_then (hK10 _ _ ?_)
              refine c_true rfl ?_
              refine c_seq fun _ hK11 => ?_
              refine c_region ?_
              refine o_step rfl (s_move rfl) ?_
              refine o_step rfl (step_cast (v' := .agg (Ert (badR i 31)).toArray) (s_build (cs := [_, _, _, _, _, _, _, _, _, _]) (vs := [_, _]) rfl rfl (.cons rfl rfl rfl rfl rfl (.cons rfl rfl rfl rfl rfl (.nil)))) (by first | rfl | (simp only [Ert, badR, okR, Ec_zero]; rfl))) ?_
              refine o_stW rfl rfl upA (ert_len _) (ert_len _) (ert_one _) ?_
              refine o_nil ?_
              refine x_then (hK11 _ _ ?_)
              refine c_ret ?_
              refine x_then_ret (x_then_ret (?_))
              exact x_ret rfl (.agg inferInstance inferInstance rfl (RdPK.cels (.own meA)) (ert_len _) (.nil)) (by unfold thV; rw [hN]; rfl)
            · skip
              refine o_yes rfl rfl ?_
              refine o_step rfl (s_not rfl) ?_
              refine o_step rfl (s_pick_t rfl rfl) ?_
              refine o_step rfl (s_move rfl) ?_
              refine o_yes rfl rfl ?_
              refine o_step rfl (s_move rfl) ?_
              refine o_yes rfl rfl ?_
              refine o_step rfl (s_add rfl rfl (by omega)) ?_
              refine o_yes rfl rfl ?_
              refine o_step rfl (s_move rfl) ?_
              refine o_yes rfl rfl ?_
              refine o_step rfl (s_len rfl) ?_
              refine o_yes rfl rfl ?_
              by_cases hl4 : i + 4 < l.length
              · skip
                refine o_step rfl (step_cast (v' := .bool true) (s_lss rfl rfl) (by rw [decide_eq_true (by omega)])) ?_
                refine o_yes rfl rfl ?_
                refine o_step rfl (s_move rfl) ?_
                refine o_yes rfl rfl ?_
                refine o_step rfl (s_move rfl) ?_
                refine o_yes rfl rfl ?_
                refine o_step rfl (s_move rfl) ?_
                refine o_yes rfl rfl ?_
                refine o_step rfl (s_add rfl rfl (by omega)) ?_
                refine o_yes rfl rfl ?_
                refine o_callP (rSign_fn la lc l (i + 4) 93 93 (by decide)) rfl rfl rfl (fun w st => (RdK.old0 hw).out w st) (fun v112 hv112 => ?_)
                subst hv112
                cases s4 : sg l (i + 4) 93
                · skip
                  have hN : thP l i i = .bad 31 i := by first | (rw [thP_encl h91 hy hy2]; unfold encP; rw [if_neg (by omega), if_neg (by rw [s3]; decide), if_neg (by omega), if_pos s4]) | (exfalso; omega)
                  refine o_yes rfl rfl ?_
                  refine o_step rfl (s_not rfl) ?_
                  refine o_yes rfl rfl ?_
                  refine o_step rfl (s_pick_t rfl rfl) ?_
                  refine o_step rfl (s_pick_f rfl rfl) ?_
                  refine o_nil ?_
                  refine x_then (hK10 _ _ ?_)
                  refine c_true rfl ?_
                  refine c_seq fun _ hK12 => ?_
                  refine c_region ?_
                  refine o_step rfl (s_move rfl) ?_
                  refine o_step rfl (step_cast (v' := .agg (Ert (badR i 31)).toArray) (s_build (cs := [_, _, _, _, _, _, _, _, _, _]) (vs := [_, _]) rfl rfl (.cons rfl rfl rfl rfl rfl (.cons rfl rfl rfl rfl rfl (.nil)))) (by first | rfl | (simp only [Ert, badR, okR, Ec_zero]; rfl))) ?_
                  refine o_stW rfl rfl upA (ert_len _) (ert_len _) (ert_one _) ?_
                  refine o_nil ?_
                  refine x_then (hK12 _ _ ?_)
                  refine c_ret ?_
                  refine x_then_ret (x_then_ret (?_))
                  exact x_ret rfl (.agg inferInstance inferInstance rfl (RdPK.cels (.own meA)) (ert_len _) (.nil)) (by unfold thV; rw [hN]; rfl)
                · skip
                  refine o_yes rfl rfl ?_
                  refine o_step rfl (s_not rfl) ?_
                  refine o_yes rfl rfl ?_
                  refine o_step rfl (s_pick_t rfl rfl) ?_
                  refine o_step rfl (s_pick_f rfl rfl) ?_
                  refine o_nil ?_
                  refine x_then (hK10 _ _ ?_)
                  refine c_false rfl ?_
                  refine c_skip ?_
                  refine x_then (hK9 _ _ ?_)
                  refine c_seq fun _ hK13 => ?_
                  refine c_seq fun _ hK14 => ?_
                  refine c_region ?_
                  refine o_step rfl (s_move rfl) ?_
                  refine o_step rfl (s_add rfl rfl (by omega)) ?_
                  refine o_step rfl (s_move rfl) ?_
                  refine o_step rfl (s_len rfl) ?_
                  by_cases hl4b : l.length ≤ i + 4
                  · skip
                    have hN : thP l i i = .bad 32 i := by rw [thP_encl h91 hy hy2]; unfold encP; first | (rw [if_pos (by omega)]; done) | (rw [if_neg (by omega), if_neg (by rw [s3]; decide), if_pos hl4b])
                    refine o_step rfl (step_cast (v' := .bool true) (s_geq rfl rfl) (by rw [decide_eq_true (by omega)])) ?_
                    refine o_nil ?_
                    refine x_then (hK14 _ _ ?_)
                    refine c_true rfl ?_
                    refine c_seq fun _ hK15 => ?_
                    refine c_region ?_
                    refine o_step rfl (s_move rfl) ?_
                    refine o_step rfl (step_cast (v' := .agg (Ert (badR i 32)).toArray) (s_build (cs := [_, _, _, _, _, _, _, _, _, _]) (vs := [_, _]) rfl rfl (.cons rfl rfl rfl rfl rfl (.cons rfl rfl rfl rfl rfl (.nil)))) (by first | rfl | (simp only [Ert, badR, okR, Ec_zero]; rfl))) ?_
                    refine o_stW rfl rfl upA (ert_len _) (ert_len _) (ert_one _) ?_
                    refine o_nil ?_
                    refine x_then (hK15 _ _ ?_)
                    refine c_ret ?_
                    refine x_then_ret (x_then_ret (?_))
                    exact x_ret rfl (.agg inferInstance inferInstance rfl (RdPK.cels (.own meA)) (ert_len _) (.nil)) (by unfold thV; rw [hN]; rfl)
                  · skip
                    have hN : thP l i i = .ok ⟨ofL [(mk0 l (i + 2)).b], (mk0 l (i + 2)).b, y == 46, i + 5⟩ := by first | (rw [thP_encl h91 hy hy2]; unfold encP; rw [if_neg (by omega), if_neg (by rw [s3]; decide), if_neg (by omega), if_neg (by rw [s4]; decide)]) | (exfalso; omega)
                    refine o_step rfl (step_cast (v' := .bool false) (s_geq rfl rfl) (by rw [decide_eq_false (by omega)])) ?_
                    refine o_nil ?_
                    refine x_then (hK14 _ _ ?_)
                    refine c_false rfl ?_
                    refine c_skip ?_
                    refine x_then (hK13 _ _ ?_)
                    refine c_seq fun _ hK16 => ?_
                    refine c_region ?_
                    refine o_step rfl (s_move rfl) ?_
                    refine o_step rfl (s_move rfl) ?_
                    refine o_step rfl (s_add rfl rfl (by omega)) ?_
                    refine o_step rfl (s_idx rfl rfl hsl (by omega)) ?_
                    refine o_step rfl (s_field rfl rfl (by decide)) ?_
                    refine o_step rfl (s_ld rfl ((RdK.old0 hw).ld (i + 2) 0 (mk0_get (by omega)) rfl (by decide) (by omega))) ?_
                    refine o_step rfl (s_assign rfl) ?_
                    refine o_nil ?_
                    refine x_then (hK16 _ _ ?_)
                    refine c_seq fun _ hK17 => ?_
                    refine c_region ?_
                    refine o_step rfl (s_move rfl) ?_
                    refine o_step rfl (s_move rfl) ?_
                    refine o_step rfl (s_add rfl rfl (by omega)) ?_
                    refine o_step rfl (s_move rfl) ?_
                    refine o_step rfl (step_cast (v' := .bool (y == 46)) (s_eql rfl rfl) (by rw [← u8_eq46])) ?_
                    refine o_step rfl (s_move rfl) ?_
                    refine o_step rfl (s_move rfl) ?_
                    refine o_bs (E := Eb) (xs := [(mk0 l (i + 2)).b]) (vs := [_]) rfl rfl rfl rfl rfl (by decide) (by decide) fun b138 S138 hS138 => ?_
                    refine o_callP (rOf_fn (some ⟨b138, 0, none⟩) 1 [(mk0 l (i + 2)).b]) rfl rfl rfl (fun w st => (hS138.rdk hiA).out w st) (fun v139 hv139 => ?_)
                    subst hv139
                    refine o_step rfl (step_cast (v' := .agg (Ert (okR i (sg l i 45) ⟨ofL [(mk0 l (i + 2)).b], (mk0 l (i + 2)).b, y == 46, i + 5⟩)).toArray) (s_build (cs := [_, _, _, _, _, _, _, _, _, _]) (vs := [_, _, _, _, _]) rfl rfl (.cons rfl rfl rfl rfl rfl (.cons rfl rfl rfl rfl rfl (.cons rfl rfl rfl rfl rfl (.cons rfl rfl rfl rfl rfl (.cons rfl rfl rfl rfl rfl (.nil))))))) (by rw [sg_two h91 (by decide)]; rfl)) ?_
                    refine o_stW rfl rfl upA (ert_len _) (ert_len _) (ert_one _) ?_
                    refine o_nil ?_
                    refine x_then (hK17 _ _ ?_)
                    refine c_ret ?_
                    refine x_then_ret (?_)
                    exact x_ret rfl (.agg inferInstance inferInstance rfl (RdPK.cels (.own meA)) (ert_len _) (.nil)) (by unfold thV; rw [hN]; rfl)
              · skip
                refine o_step rfl (step_cast (v' := .bool false) (s_lss rfl rfl) (by rw [decide_eq_false (by omega)])) ?_
                refine o_yes rfl rfl ?_
                refine o_step rfl (s_move rfl) ?_
                refine o_no rfl rfl rfl rfl ?_
                refine o_no rfl rfl rfl rfl ?_
                refine o_no rfl rfl rfl rfl ?_
                refine o_no rfl rfl rfl rfl ?_
                refine o_no rfl rfl rfl rfl ?_
                refine o_yes rfl rfl ?_
                refine o_step rfl (s_pick_f rfl rfl) ?_
                refine o_step rfl (s_pick_f rfl rfl) ?_
                refine o_nil ?_
                refine x_then (hK10 _ _ ?_)
                refine c_false rfl ?_
                refine c_skip ?_
                refine x_then (hK9 _ _ ?_)
                refine c_seq fun _ hK18 => ?_
                refine c_seq fun _ hK19 => ?_
                refine c_region ?_
                refine o_step rfl (s_move rfl) ?_
                refine o_step rfl (s_add rfl rfl (by omega)) ?_
                refine o_step rfl (s_move rfl) ?_
                refine o_step rfl (s_len rfl) ?_
                by_cases hl4b : l.length ≤ i + 4
                · skip
                  have hN : thP l i i = .bad 32 i := by rw [thP_encl h91 hy hy2]; unfold encP; first | (rw [if_pos (by omega)]; done) | (rw [if_neg (by omega), if_neg (by rw [s3]; decide), if_pos hl4b])
                  refine o_step rfl (step_cast (v' := .bool true) (s_geq rfl rfl) (by rw [decide_eq_true (by omega)])) ?_
                  refine o_nil ?_
                  refine x_then (hK19 _ _ ?_)
                  refine c_true rfl ?_
                  refine c_seq fun _ hK20 => ?_
                  refine c_region ?_
                  refine o_step rfl (s_move rfl) ?_
                  refine o_step rfl (step_cast (v' := .agg (Ert (badR i 32)).toArray) (s_build (cs := [_, _, _, _, _, _, _, _, _, _]) (vs := [_, _]) rfl rfl (.cons rfl rfl rfl rfl rfl (.cons rfl rfl rfl rfl rfl (.nil)))) (by first | rfl | (simp only [Ert, badR, okR, Ec_zero]; rfl))) ?_
                  refine o_stW rfl rfl upA (ert_len _) (ert_len _) (ert_one _) ?_
                  refine o_nil ?_
                  refine x_then (hK20 _ _ ?_)
                  refine c_ret ?_
                  refine x_then_ret (x_then_ret (?_))
                  exact x_ret rfl (.agg inferInstance inferInstance rfl (RdPK.cels (.own meA)) (ert_len _) (.nil)) (by unfold thV; rw [hN]; rfl)
                · skip
                  have hN : thP l i i = .ok ⟨ofL [(mk0 l (i + 2)).b], (mk0 l (i + 2)).b, y == 46, i + 5⟩ := by first | (rw [thP_encl h91 hy hy2]; unfold encP; rw [if_neg (by omega), if_neg (by rw [s3]; decide), if_neg (by omega), if_neg (by rw [s4]; decide)]) | (exfalso; omega)
                  refine o_step rfl (step_cast (v' := .bool false) (s_geq rfl rfl) (by rw [decide_eq_false (by omega)])) ?_
                  refine o_nil ?_
                  refine x_then (hK19 _ _ ?_)
                  refine c_false rfl ?_
                  refine c_skip ?_
                  refine x_then (hK18 _ _ ?_)
                  refine c_seq fun _ hK21 => ?_
                  refine c_region ?_
                  refine o_step rfl (s_move rfl) ?_
                  refine o_step rfl (s_move rfl) ?_
                  refine o_step rfl (s_add rfl rfl (by omega)) ?_
                  refine o_step rfl (s_idx rfl rfl hsl (by omega)) ?_
                  refine o_step rfl (s_field rfl rfl (by decide)) ?_
                  refine o_step rfl (s_ld rfl ((RdK.old0 hw).ld (i + 2) 0 (mk0_get (by omega)) rfl (by decide) (by omega))) ?_
                  refine o_step rfl (s_assign rfl) ?_
                  refine o_nil ?_
                  refine x_then (hK21 _ _ ?_)
                  refine c_seq fun _ hK22 => ?_
                  refine c_region ?_
                  refine o_step rfl (s_move rfl) ?_
                  refine o_step rfl (s_move rfl) ?_
                  refine o_step rfl (s_add rfl rfl (by omega)) ?_
                  refine o_step rfl (s_move rfl) ?_
                  refine o_step rfl (step_cast (v' := .bool (y == 46)) (s_eql rfl rfl) (by rw [← u8_eq46])) ?_
                  refine o_step rfl (s_move rfl) ?_
                  refine o_step rfl (s_move rfl) ?_
                  refine o_bs (E := Eb) (xs := [(mk0 l (i + 2)).b]) (vs := [_]) rfl rfl rfl rfl rfl (by decide) (by decide) fun b138 S138 hS138 => ?_
                  refine o_callP (rOf_fn (some ⟨b138, 0, none⟩) 1 [(mk0 l (i + 2)).b]) rfl rfl rfl (fun w st => (hS138.rdk hiA).out w st) (fun v139 hv139 => ?_)
                  subst hv139
                  refine o_step rfl (step_cast (v' := .agg (Ert (okR i (sg l i 45) ⟨ofL [(mk0 l (i + 2)).b], (mk0 l (i + 2)).b, y == 46, i + 5⟩)).toArray) (s_build (cs := [_, _, _, _, _, _, _, _, _, _]) (vs := [_, _, _, _, _]) rfl rfl (.cons rfl rfl rfl rfl rfl (.cons rfl rfl rfl rfl rfl (.cons rfl rfl rfl rfl rfl (.cons rfl rfl rfl rfl rfl (.cons rfl rfl rfl rfl rfl (.nil))))))) (by rw [sg_two h91 (by decide)]; rfl)) ?_
                  refine o_stW rfl rfl upA (ert_len _) (ert_len _) (ert_one _) ?_
                  refine o_nil ?_
                  refine x_then (hK22 _ _ ?_)
                  refine c_ret ?_
                  refine x_then_ret (?_)
                  exact x_ret rfl (.agg inferInstance inferInstance rfl (RdPK.cels (.own meA)) (ert_len _) (.nil)) (by unfold thV; rw [hN]; rfl)
          · skip
            refine o_step rfl (step_cast (v' := .bool false) (s_lss rfl rfl) (by rw [decide_eq_false (by omega)])) ?_
            refine o_step rfl (s_move rfl) ?_
            refine o_no rfl rfl rfl rfl ?_
            refine o_no rfl rfl rfl rfl ?_
            refine o_no rfl rfl rfl rfl ?_
            refine o_no rfl rfl rfl rfl ?_
            refine o_no rfl rfl rfl rfl ?_
            refine o_no rfl rfl rfl rfl ?_
            refine o_step rfl (s_pick_f rfl rfl) ?_
            refine o_step rfl (s_move rfl) ?_
            refine o_yes rfl rfl ?_
            refine o_step rfl (s_move rfl) ?_
            refine o_yes rfl rfl ?_
            refine o_step rfl (s_add rfl rfl (by omega)) ?_
            refine o_yes rfl rfl ?_
            refine o_step rfl (s_move rfl) ?_
            refine o_yes rfl rfl ?_
            refine o_step rfl (s_len rfl) ?_
            refine o_yes rfl rfl ?_
            by_cases hl4 : i + 4 < l.length
            · skip
              refine o_step rfl (step_cast (v' := .bool true) (s_lss rfl rfl) (by rw [decide_eq_true (by omega)])) ?_
              refine o_yes rfl rfl ?_
              refine o_step rfl (s_move rfl) ?_
              refine o_yes rfl rfl ?_
              refine o_step rfl (s_move rfl) ?_
              refine o_yes rfl rfl ?_
              refine o_step rfl (s_move rfl) ?_
              refine o_yes rfl rfl ?_
              refine o_step rfl (s_add rfl rfl (by omega)) ?_
              refine o_yes rfl rfl ?_
              refine o_callP (rSign_fn la lc l (i + 4) 93 93 (by decide)) rfl rfl rfl (fun w st => (RdK.old0 hw).out w st) (fun v112 hv112 => ?_)
              subst hv112
              cases s4 : sg l (i + 4) 93
              · skip
                have hN : thP l i i = .bad 31 i := by first | (rw [thP_encl h91 hy hy2]; unfold encP; rw [if_neg (by omega), if_neg (by rw [s3]; decide), if_neg (by omega), if_pos s4]) | (exfalso; omega)
                refine o_yes rfl rfl ?_
                refine o_step rfl (s_not rfl) ?_
                refine o_yes rfl rfl ?_
                refine o_step rfl (s_pick_t rfl rfl) ?_
                refine o_step rfl (s_pick_f rfl rfl) ?_
                refine o_nil ?_
                refine x_then (hK10 _ _ ?_)
                refine c_true rfl ?_
                refine c_seq fun _ hK23 => ?_
                refine c_region ?_
                refine o_step rfl (s_move rfl) ?_
                refine o_step rfl (step_cast (v' := .agg (Ert (badR i 31)).toArray) (s_build (cs := [_, _, _, _, _, _, _, _, _, _]) (vs := [_, _]) rfl rfl (.cons rfl rfl rfl rfl rfl (.cons rfl rfl rfl rfl rfl (.nil)))) (by first | rfl | (simp only [Ert, badR, okR, Ec_zero]; rfl))) ?_
                refine o_stW rfl rfl upA (ert_len _) (ert_len _) (ert_one _) ?_
                refine o_nil ?_
                refine x_then (hK23 _ _ ?_)
                refine c_ret ?_
                refine x_then_ret (x_then_ret (?_))
                exact x_ret rfl (.agg inferInstance inferInstance rfl (RdPK.cels (.own meA)) (ert_len _) (.nil)) (by unfold thV; rw [hN]; rfl)
              · skip
                refine o_yes rfl rfl ?_
                refine o_step rfl (s_not rfl) ?_
                refine o_yes rfl rfl ?_
                refine o_step rfl (s_pick_t rfl rfl) ?_
                refine o_step rfl (s_pick_f rfl rfl) ?_
                refine o_nil ?_
                refine x_then (hK10 _ _ ?_)
                refine c_false rfl ?_
                refine c_skip ?_
                refine x_then (hK9 _ _ ?_)
                refine c_seq fun _ hK24 => ?_
                refine c_seq fun _ hK25 => ?_
                refine c_region ?_
                refine o_step rfl (s_move rfl) ?_
                refine o_step rfl (s_add rfl rfl (by omega)) ?_
                refine o_step rfl (s_move rfl) ?_
                refine o_step rfl (s_len rfl) ?_
                by_cases hl4b : l.length ≤ i + 4
                · skip
                  have hN : thP l i i = .bad 32 i := by rw [thP_encl h91 hy hy2]; unfold encP; first | (rw [if_pos (by omega)]; done) | (rw [if_neg (by omega), if_neg (by rw [s3]; decide), if_pos hl4b])
                  refine o_step rfl (step_cast (v' := .bool true) (s_geq rfl rfl) (by rw [decide_eq_true (by omega)])) ?_
                  refine o_nil ?_
                  refine x_then (hK25 _ _ ?_)
                  refine c_true rfl ?_
                  refine c_seq fun _ hK26 => ?_
                  refine c_region ?_
                  refine o_step rfl (s_move rfl) ?_
                  refine o_step rfl (step_cast (v' := .agg (Ert (badR i 32)).toArray) (s_build (cs := [_, _, _, _, _, _, _, _, _, _]) (vs := [_, _]) rfl rfl (.cons rfl rfl rfl rfl rfl (.cons rfl rfl rfl rfl rfl (.nil)))) (by first | rfl | (simp only [Ert, badR, okR, Ec_zero]; rfl))) ?_
                  refine o_stW rfl rfl upA (ert_len _) (ert_len _) (ert_one _) ?_
                  refine o_nil ?_
                  refine x_then (hK26 _ _ ?_)
                  refine c_ret ?_
                  refine x_then_ret (x_then_ret (?_))
                  exact x_ret rfl (.agg inferInstance inferInstance rfl (RdPK.cels (.own meA)) (ert_len _) (.nil)) (by unfold thV; rw [hN]; rfl)
                · skip
                  have hN : thP l i i = .ok ⟨ofL [(mk0 l (i + 2)).b], (mk0 l (i + 2)).b, y == 46, i + 5⟩ := by first | (rw [thP_encl h91 hy hy2]; unfold encP; rw [if_neg (by omega), if_neg (by rw [s3]; decide), if_neg (by omega), if_neg (by rw [s4]; decide)]) | (exfalso; omega)
                  refine o_step rfl (step_cast (v' := .bool false) (s_geq rfl rfl) (by rw [decide_eq_false (by omega)])) ?_
                  refine o_nil ?_
                  refine x_then (hK25 _ _ ?_)
                  refine c_false rfl ?_
                  refine c_skip ?_
                  refine x_then (hK24 _ _ ?_)
                  refine c_seq fun _ hK27 => ?_
                  refine c_region ?_
                  refine o_step rfl (s_move rfl) ?_
                  refine o_step rfl (s_move rfl) ?_
                  refine o_step rfl (s_add rfl rfl (by omega)) ?_
                  refine o_step rfl (s_idx rfl rfl hsl (by omega)) ?_
                  refine o_step rfl (s_field rfl rfl (by decide)) ?_
                  refine o_step rfl (s_ld rfl ((RdK.old0 hw).ld (i + 2) 0 (mk0_get (by omega)) rfl (by decide) (by omega))) ?_
                  refine o_step rfl (s_assign rfl) ?_
                  refine o_nil ?_
                  refine x_then (hK27 _ _ ?_)
                  refine c_seq fun _ hK28 => ?_
                  refine c_region ?_
                  refine o_step rfl (s_move rfl) ?_
                  refine o_step rfl (s_move rfl) ?_
                  refine o_step rfl (s_add rfl rfl (by omega)) ?_
                  refine o_step rfl (s_move rfl) ?_
                  refine o_step rfl (step_cast (v' := .bool (y == 46)) (s_eql rfl rfl) (by rw [← u8_eq46])) ?_
                  refine o_step rfl (s_move rfl) ?_
                  refine o_step rfl (s_move rfl) ?_
                  refine o_bs (E := Eb) (xs := [(mk0 l (i + 2)).b]) (vs := [_]) rfl rfl rfl rfl rfl (by decide) (by decide) fun b138 S138 hS138 => ?_
                  refine o_callP (rOf_fn (some ⟨b138, 0, none⟩) 1 [(mk0 l (i + 2)).b]) rfl rfl rfl (fun w st => (hS138.rdk hiA).out w st) (fun v139 hv139 => ?_)
                  subst hv139
                  refine o_step rfl (step_cast (v' := .agg (Ert (okR i (sg l i 45) ⟨ofL [(mk0 l (i + 2)).b], (mk0 l (i + 2)).b, y == 46, i + 5⟩)).toArray) (s_build (cs := [_, _, _, _, _, _, _, _, _, _]) (vs := [_, _, _, _, _]) rfl rfl (.cons rfl rfl rfl rfl rfl (.cons rfl rfl rfl rfl rfl (.cons rfl rfl rfl rfl rfl (.cons rfl rfl rfl rfl rfl (.cons rfl rfl rfl rfl rfl (.nil))))))) (by rw [sg_two h91 (by decide)]; rfl)) ?_
                  refine o_stW rfl rfl upA (ert_len _) (ert_len _) (ert_one _) ?_
                  refine o_nil ?_
                  refine x_then (hK28 _ _ ?_)
                  refine c_ret ?_
                  refine x_then_ret (?_)
                  exact x_ret rfl (.agg inferInstance inferInstance rfl (RdPK.cels (.own meA)) (ert_len _) (.nil)) (by unfold thV; rw [hN]; rfl)
            · skip
              refine o_step rfl (step_cast (v' := .bool false) (s_lss rfl rfl) (by rw [decide_eq_false (by omega)])) ?_
              refine o_yes rfl rfl ?_
              refine o_step rfl (s_move rfl) ?_
              refine o_no rfl rfl rfl rfl ?_
              refine o_no rfl rfl rfl rfl ?_
              refine o_no rfl rfl rfl rfl ?_
              refine o_no rfl rfl rfl rfl ?_
              refine o_no rfl rfl rfl rfl ?_
              refine o_yes rfl rfl ?_
              refine o_step rfl (s_pick_f rfl rfl) ?_
              refine o_step rfl (s_pick_f rfl rfl) ?_
              refine o_nil ?_
              refine x_then (hK10 _ _ ?_)
              refine c_false rfl ?_
              refine c_skip ?_
              refine x_then (hK9 _ _ ?_)
              refine c_seq fun _ hK29 => ?_
              refine c_seq fun _ hK30 => ?_
              refine c_region ?_
              refine o_step rfl (s_move rfl) ?_
              refine o_step rfl (s_add rfl rfl (by omega)) ?_
              refine o_step rfl (s_move rfl) ?_
              refine o_step rfl (s_len rfl) ?_
              by_cases hl4b : l.length ≤ i + 4
              · skip
                have hN : thP l i i = .bad 32 i := by rw [thP_encl h91 hy hy2]; unfold encP; first | (rw [if_pos (by omega)]; done) | (rw [if_neg (by omega), if_neg (by rw [s3]; decide), if_pos hl4b])
                refine o_step rfl (step_cast (v' := .bool true) (s_geq rfl rfl) (by rw [decide_eq_true (by omega)])) ?_
                refine o_nil ?_
                refine x_then (hK30 _ _ ?_)
                refine c_true rfl ?_
                refine c_seq fun _ hK31 => ?_
                refine c_region ?_
                refine o_step rfl (s_move rfl) ?_
                refine o_step rfl (step_cast (v' := .agg (Ert (badR i 32)).toArray) (s_build (cs := [_, _, _, _, _, _, _, _, _, _]) (vs := [_, _]) rfl rfl (.cons rfl rfl rfl rfl rfl (.cons rfl rfl rfl rfl rfl (.nil)))) (by first | rfl | (simp only [Ert, badR, okR, Ec_zero]; rfl))) ?_
                refine o_stW rfl rfl upA (ert_len _) (ert_len _) (ert_one _) ?_
                refine o_nil ?_
                refine x_then (hK31 _ _ ?_)
                refine c_ret ?_
                refine x_then_ret (x_then_ret (?_))
                exact x_ret rfl (.agg inferInstance inferInstance rfl (RdPK.cels (.own meA)) (ert_len _) (.nil)) (by unfold thV; rw [hN]; rfl)
              · skip
                have hN : thP l i i = .ok ⟨ofL [(mk0 l (i + 2)).b], (mk0 l (i + 2)).b, y == 46, i + 5⟩ := by first | (rw [thP_encl h91 hy hy2]; unfold encP; rw [if_neg (by omega), if_neg (by rw [s3]; decide), if_neg (by omega), if_neg (by rw [s4]; decide)]) | (exfalso; omega)
                refine o_step rfl (step_cast (v' := .bool false) (s_geq rfl rfl) (by rw [decide_eq_false (by omega)])) ?_
                refine o_nil ?_
                refine x_then (hK30 _ _ ?_)
                refine c_false rfl ?_
                refine c_skip ?_
                refine x_then (hK29 _ _ ?_)
                refine c_seq fun _ hK32 => ?_
                refine c_region ?_
                refine o_step rfl (s_move rfl) ?_
                refine o_step rfl (s_move rfl) ?_
                refine o_step rfl (s_add rfl rfl (by omega)) ?_
                refine o_step rfl (s_idx rfl rfl hsl (by omega)) ?_
                refine o_step rfl (s_field rfl rfl (by decide)) ?_
                refine o_step rfl (s_ld rfl ((RdK.old0 hw).ld (i + 2) 0 (mk0_get (by omega)) rfl (by decide) (by omega))) ?_
                refine o_step rfl (s_assign rfl) ?_
                refine o_nil ?_
                refine x_then (hK32 _ _ ?_)
                refine c_seq fun _ hK33 => ?_
                refine c_region ?_
                refine o_step rfl (s_move rfl) ?_
                refine o_step rfl (s_move rfl) ?_
                refine o_step rfl (s_add rfl rfl (by omega)) ?_
                refine o_step rfl (s_move rfl) ?_
                refine o_step rfl (step_cast (v' := .bool (y == 46)) (s_eql rfl rfl) (by rw [← u8_eq46])) ?_
                refine o_step rfl (s_move rfl) ?_
                refine o_step rfl (s_move rfl) ?_
                refine o_bs (E := Eb) (xs := [(mk0 l (i + 2)).b]) (vs := [_]) rfl rfl rfl rfl rfl (by decide) (by decide) fun b138 S138 hS138 => ?_
                refine o_callP (rOf_fn (some ⟨b138, 0, none⟩) 1 [(mk0 l (i + 2)).b]) rfl rfl rfl (fun w st => (hS138.rdk hiA).out w st) (fun v139 hv139 => ?_)
                subst hv139
                refine o_step rfl (step_cast (v' := .agg (Ert (okR i (sg l i 45) ⟨ofL [(mk0 l (i + 2)).b], (mk0 l (i + 2)).b, y == 46, i + 5⟩)).toArray) (s_build (cs := [_, _, _, _, _, _, _, _, _, _]) (vs := [_, _, _, _, _]) rfl rfl (.cons rfl rfl rfl rfl rfl (.cons rfl rfl rfl rfl rfl (.cons rfl rfl rfl rfl rfl (.cons rfl rfl rfl rfl rfl (.cons rfl rfl rfl rfl rfl (.nil))))))) (by rw [sg_two h91 (by decide)]; rfl)) ?_
                refine o_stW rfl rfl upA (ert_len _) (ert_len _) (ert_one _) ?_
                refine o_nil ?_
                refine x_then (hK33 _ _ ?_)
                refine c_ret ?_
                refine x_then_ret (?_)
                exact x_ret rfl (.agg inferInstance inferInstance rfl (RdPK.cels (.own meA)) (ert_len _) (.nil)) (by unfold thV; rw [hN]; rfl)
        · skip
          have hN := hJ.2 h82
          refine c_skip ?_
          refine x_then (hK6 _ _ ?_)
          refine c_seq fun _ hK34 => ?_
          refine c_drawE ([]) (fun i => false) ?_
          refine e_take 0 rfl (by kernel_rfl) (by kernel_rfl) (by kernel_rfl) (by kernel_rfl) (fun _ _ => rfl) rfl (by exact HSub.nil) (s_move rfl) ?_
          refine e_take 1 rfl (by kernel_rfl) (by kernel_rfl) (by kernel_rfl) (by kernel_rfl) (fun _ _ => rfl) rfl (by exact HSub.nil) (s_move rfl) ?_
          refine e_take 2 rfl (by kernel_rfl) (by kernel_rfl) (by kernel_rfl) (by kernel_rfl) (fun _ _ => rfl) rfl (by exact HSub.nil) (s_add rfl rfl (by omega)) ?_
          refine e_take 3 rfl (by kernel_rfl) (by kernel_rfl) (by kernel_rfl) (by kernel_rfl) (fun _ _ => rfl) rfl (by exact HSub.nil) (s_move rfl) ?_
          refine e_take 4 rfl (by kernel_rfl) (by kernel_rfl) (by kernel_rfl) (by kernel_rfl) (fun _ _ => rfl) rfl (by exact HSub.nil) (s_move rfl) ?_
          refine e_take 6 rfl (by kernel_rfl) (by kernel_rfl) (by kernel_rfl) (by kernel_rfl) (fun _ _ => rfl) rfl (by exact HSub.nil) (s_move rfl) ?_
          refine e_take 7 rfl (by kernel_rfl) (by kernel_rfl) (by kernel_rfl) (by kernel_rfl) (fun _ _ => rfl) rfl (by exact HSub.nil) (s_move rfl) ?_
          refine e_take 11 rfl (by kernel_rfl) (by kernel_rfl) (by kernel_rfl) (by kernel_rfl) (fun _ _ => rfl) rfl (by exact HSub.nil) (s_move rfl) ?_
          refine e_take 12 rfl (by kernel_rfl) (by kernel_rfl) (by kernel_rfl) (by kernel_rfl) (fun _ _ => rfl) rfl (by exact HSub.nil) (s_move rfl) ?_
          refine e_take 13 rfl (by kernel_rfl) (by kernel_rfl) (by kernel_rfl) (by kernel_rfl) (fun _ _ => rfl) rfl (by exact HSub.nil) (s_idx rfl rfl hsl (by omega)) ?_
          refine e_take 14 rfl (by kernel_rfl) (by kernel_rfl) (by kernel_rfl) (by kernel_rfl) (fun _ _ => rfl) rfl (by exact HSub.nil) (s_field rfl rfl (by decide)) ?_
          refine e_take 15 rfl (by kernel_rfl) (by kernel_rfl) (by kernel_rfl) (by kernel_rfl) (fun _ _ => rfl) rfl (by exact HSub.nil) (s_ld rfl ((RdK.old0 hw).ld i 0 (mk0_get hil) rfl (by decide) (by omega))) ?_
          refine e_join (ι := Unit) (fun g => [(146, .bool (sg l i 45)), (151, .int .u8 (mk0 l i).b.toNat), (158, .agg (Ec (ofL [(mk0 l i).b])).toArray)]) [(4, _), (141, _), (143, _)] (fun g => [(b4, .cells (Ert zRt).toArray 92 (0, 0))]) 2 #[true, true, true, true, true, true, true, true, true, true, true, true, true, true, true, true, true, true, false, false] sbA (fun hJ => ?_) ?_
          · skip
            refine e_any3 5 8 16 rfl rfl rfl (by kernel_rfl) ?_ ?_ ?_
            · skip
              refine o_callP (rSign_fn la lc l i 45 45 (by decide)) rfl rfl rfl (fun w st => (RdK.old0 hw).out w st) (fun v146 hv146 => ?_)
              subst hv146
              refine o_nil ?_
              refine x_oneS (by exact HSub.nil) ?_
              refine e_any2 8 16 rfl rfl (by kernel_rfl) ?_ ?_
              · skip
                refine o_step rfl (s_idx rfl rfl hsl (by omega)) ?_
                refine o_nil ?_
                refine x_oneS (by exact HSub.nil) ?_
                refine e_any2 9 16 rfl rfl (by kernel_rfl) ?_ ?_
                · skip
                  refine o_step rfl (s_field rfl rfl (by decide)) ?_
                  refine o_nil ?_
                  refine x_oneS (by exact HSub.nil) ?_
                  refine e_any2 10 16 rfl rfl (by kernel_rfl) ?_ ?_
                  · skip
                    refine o_step rfl (s_ld rfl ((RdK.old0 hw).ld i 0 (mk0_get hil) rfl (by decide) (by omega))) ?_
                    refine o_nil ?_
                    refine x_oneS (by exact HSub.nil) ?_
                    refine e_one 16 rfl (by kernel_rfl) ?_
                    refine o_bs (E := Eb) (xs := [(mk0 l i).b]) (vs := [_]) rfl rfl rfl rfl rfl (by decide) (by decide) fun b157 S157 hS157 => ?_
                    refine o_nil ?_
                    refine x_oneS (by exact HSub.nil) ?_
                    refine e_one 17 rfl (by kernel_rfl) ?_
                    refine o_callP (rOf_fn (some ⟨b157, 0, none⟩) 1 [(mk0 l i).b]) rfl rfl rfl (fun w st => (hS157.rdk hiA).out w st) (fun v158 hv158 => ?_)
                    subst hv158
                    refine o_nil ?_
                    refine x_oneS (by exact HSub.nil) ?_
                    exact e_lst (by kernel_rfl) (hJ () _ _ sbA sbA (by repeat (first | exact HSub.refl _ | exact HSub.nil | refine HSub.takeC pkB ?_)))
                  · skip
                    refine o_bs (E := Eb) (xs := [(mk0 l i).b]) (vs := [_]) rfl rfl rfl rfl rfl (by decide) (by decide) fun b157 S157 hS157 => ?_
                    refine o_nil ?_
                    refine x_oneS (by exact HSub.nil) ?_
                    refine e_any2 10 17 rfl rfl (by kernel_rfl) ?_ ?_
                    · skip
                      refine o_step rfl (s_ld rfl ((RdK.old0 hw).ld i 0 (mk0_get hil) rfl (by decide) (by omega))) ?_
                      refine o_nil ?_
                      refine x_oneS (by exact HSub.nil) ?_
                      refine e_one 17 rfl (by kernel_rfl) ?_
                      refine o_callP (rOf_fn (some ⟨b157, 0, none⟩) 1 [(mk0 l i).b]) rfl rfl rfl (fun w st => (hS157.rdk hiA).out w st) (fun v158 hv158 => ?_)
                      subst hv158
                      refine o_nil ?_
                      refine x_oneS (by exact HSub.nil) ?_
                      exact e_lst (by kernel_rfl) (hJ () _ _ sbA sbA (by repeat (first | exact HSub.refl _ | exact HSub.nil | refine HSub.takeC pkB ?_)))
                    · skip
                      refine o_callP (rOf_fn (some ⟨b157, 0, none⟩) 1 [(mk0 l i).b]) rfl rfl rfl (fun w st => (hS157.rdk hiA).out w st) (fun v158 hv158 => ?_)
                      subst hv158
                      refine o_nil ?_
                      refine x_oneS (by exact HSub.nil) ?_
                      refine e_one 10 rfl (by kernel_rfl) ?_
                      refine o_step rfl (s_ld rfl ((RdK.old0 hw).ld i 0 (mk0_get hil) rfl (by decide) (by omega))) ?_
                      refine o_nil ?_
                      refine x_oneS (by exact HSub.nil) ?_
                      exact e_lst (by kernel_rfl) (hJ () _ _ sbA sbA (by repeat (first | exact HSub.refl _ | exact HSub.nil | refine HSub.takeC pkB ?_)))
                · skip
                  refine o_bs (E := Eb) (xs := [(mk0 l i).b]) (vs := [_]) rfl rfl rfl rfl rfl (by decide) (by decide) fun b157 S157 hS157 => ?_
                  refine o_nil ?_
                  refine x_oneS (by exact HSub.nil) ?_
                  refine e_any2 9 17 rfl rfl (by kernel_rfl) ?_ ?_
                  · skip
                    refine o_step rfl (s_field rfl rfl (by decide)) ?_
                    refine o_nil ?_
                    refine x_oneS (by exact HSub.nil) ?_
                    refine e_any2 10 17 rfl rfl (by kernel_rfl) ?_ ?_
                    · skip
                      refine o_step rfl (s_ld rfl ((RdK.old0 hw).ld i 0 (mk0_get hil) rfl (by decide) (by omega))) ?_
                      refine o_nil ?_
                      refine x_oneS (by exact HSub.nil) ?_
                      refine e_one 17 rfl (by kernel_rfl) ?_
                      refine o_callP (rOf_fn (some ⟨b157, 0, none⟩) 1 [(mk0 l i).b]) rfl rfl rfl (fun w st => (hS157.rdk hiA).out w st) (fun v158 hv158 => ?_)
                      subst hv158
                      refine o_nil ?_
                      refine x_oneS (by exact HSub.nil) ?_
                      exact e_lst (by kernel_rfl) (hJ () _ _ sbA sbA (by repeat (first | exact HSub.refl _ | exact HSub.nil | refine HSub.takeC pkB ?_)))
                    · skip
                      refine o_callP (rOf_fn (some ⟨b157, 0, none⟩) 1 [(mk0 l i).b]) rfl rfl rfl (fun w st => (hS157.rdk hiA).out w st) (fun v158 hv158 => ?_)
                      subst hv158
                      refine o_nil ?_
                      refine x_oneS (by exact HSub.nil) ?_
                      refine e_one 10 rfl (by kernel_rfl) ?_
                      refine o_step rfl (s_ld rfl ((RdK.old0 hw).ld i 0 (mk0_get hil) rfl (by decide) (by omega))) ?_
                      refine o_nil ?_
                      refine x_oneS (by exact HSub.nil) ?_
                      exact e_lst (by kernel_rfl) (hJ () _ _ sbA sbA (by repeat (first | exact HSub.refl _ | exact HSub.nil | refine HSub.takeC pkB ?_)))
                  · skip
                    refine o_callP (rOf_fn (some ⟨b157, 0, none⟩) 1 [(mk0 l i).b]) rfl rfl rfl (fun w st => (hS157.rdk hiA).out w st) (fun v158 hv158 => ?_)
                    subst hv158
                    refine o_nil ?_
                    refine x_oneS (by exact HSub.nil) ?_
                    refine e_one 9 rfl (by kernel_rfl) ?_
                    refine o_step rfl (s_field rfl rfl (by decide)) ?_
                    refine o_nil ?_
                    refine x_oneS (by exact HSub.nil) ?_
                    refine e_one 10 rfl (by kernel_rfl) ?_
                    refine o_step rfl (s_ld rfl ((RdK.old0 hw).ld i 0 (mk0_get hil) rfl (by decide) (by omega))) ?_
                    refine o_nil ?_
                    refine x_oneS (by exact HSub.nil) ?_
                    exact e_lst (by kernel_rfl) (hJ () _ _ sbA sbA (by repeat (first | exact HSub.refl _ | exact HSub.nil | refine HSub.takeC pkB ?_)))
              · skip
                refine o_bs (E := Eb) (xs := [(mk0 l i).b]) (vs := [_]) rfl rfl rfl rfl rfl (by decide) (by decide) fun b157 S157 hS157 => ?_
                refine o_nil ?_
                refine x_oneS (by exact HSub.nil) ?_
                refine e_any2 8 17 rfl rfl (by kernel_rfl) ?_ ?_
                · skip
                  refine o_step rfl (s_idx rfl rfl hsl (by omega)) ?_
                  refine o_nil ?_
                  refine x_oneS (by exact HSub.nil) ?_
                  refine e_any2 9 17 rfl rfl (by kernel_rfl) ?_ ?_
                  · skip
                    refine o_step rfl (s_field rfl rfl (by decide)) ?_
                    refine o_nil ?_
                    refine x_oneS (by exact HSub.nil) ?_
                    refine e_any2 10 17 rfl rfl (by kernel_rfl) ?_ ?_
                    · skip
                      refine o_step rfl (s_ld rfl ((RdK.old0 hw).ld i 0 (mk0_get hil) rfl (by decide) (by omega))) ?_
                      refine o_nil ?_
                      refine x_oneS (by exact HSub.nil) ?_
                      refine e_one 17 rfl (by kernel_rfl) ?_
                      refine o_callP (rOf_fn (some ⟨b157, 0, none⟩) 1 [(mk0 l i).b]) rfl rfl rfl (fun w st => (hS157.rdk hiA).out w st) (fun v158 hv158 => ?_)
                      subst hv158
                      refine o_nil ?_
                      refine x_oneS (by exact HSub.nil) ?_
                      exact e_lst (by kernel_rfl) (hJ () _ _ sbA sbA (by repeat (first | exact HSub.refl _ | exact HSub.nil | refine HSub.takeC pkB ?_)))
                    · skip
                      refine o_callP (rOf_fn (some ⟨b157, 0, none⟩) 1 [(mk0 l i).b]) rfl rfl rfl (fun w st => (hS157.rdk hiA).out w st) (fun v158 hv158 => ?_)
                      subst hv158
                      refine o_nil ?_
                      refine x_oneS (by exact HSub.nil) ?_
                      refine e_one 10 rfl (by kernel_rfl) ?_
                      refine o_step rfl (s_ld rfl ((RdK.old0 hw).ld i 0 (mk0_get hil) rfl (by decide) (by omega))) ?_
                      refine o_nil ?_
                      refine x_oneS (by exact HSub.nil) ?_
                      exact e_lst (by kernel_rfl) (hJ () _ _ sbA sbA (by repeat (first | exact HSub.refl _ | exact HSub.nil | refine HSub.takeC pkB ?_)))
                  · skip
                    refine o_callP (rOf_fn (some ⟨b157, 0, none⟩) 1 [(mk0 l i).b]) rfl rfl rfl (fun w st => (hS157.rdk hiA).out w st) (fun v158 hv158 => ?_)
                    subst hv158
                    refine o_nil ?_
                    refine x_oneS (by exact HSub.nil) ?_
                    refine e_one 9 rfl (by kernel_rfl) ?_
                    refine o_step rfl (s_field rfl rfl (by decide)) ?_
                    refine o_nil ?_
                    refine x_oneS (by exact HSub.nil) ?_
                    refine e_one 10 rfl (by kernel_rfl) ?_
                    refine o_step rfl (s_ld rfl ((RdK.old0 hw).ld i 0 (mk0_get hil) rfl (by decide) (by omega))) ?_
                    refine o_nil ?_
                    refine x_oneS (by exact HSub.nil) ?_
                    exact e_lst (by kernel_rfl) (hJ () _ _ sbA sbA (by repeat (first | exact HSub.refl _ | exact HSub.nil | refine HSub.takeC pkB ?_)))
                · skip
                  refine o_callP (rOf_fn (some ⟨b157, 0, none⟩) 1 [(mk0 l i).b]) rfl rfl rfl (fun w st => (hS157.rdk hiA).out w st) (fun v158 hv158 => ?_)
                  subst hv158
                  refine o_nil ?_
                  refine x_oneS (by exact HSub.nil) ?_
                  refine e_one 8 rfl (by kernel_rfl) ?_
                  refine o_step rfl (s_idx rfl rfl hsl (by omega)) ?_
                  refine o_nil ?_
                  refine x_oneS (by exact HSub.nil) ?_
                  refine e_one 9 rfl (by kernel_rfl) ?_
                  refine o_step rfl (s_field rfl rfl (by decide)) ?_
                  refine o_nil ?_
                  refine x_oneS (by exact HSub.nil) ?_
                  refine e_one 10 rfl (by kernel_rfl) ?_
                  refine o_step rfl (s_ld rfl ((RdK.old0 hw).ld i 0 (mk0_get hil) rfl (by decide) (by omega))) ?_
                  refine o_nil ?_
                  refine x_oneS (by exact HSub.nil) ?_
                  exact e_lst (by kernel_rfl) (hJ () _ _ sbA sbA (by repeat (first | exact HSub.refl _ | exact HSub.nil | refine HSub.takeC pkB ?_)))
            · skip
              refine o_step rfl (s_idx rfl rfl hsl (by omega)) ?_
              refine o_nil ?_
              refine x_oneS (by exact HSub.nil) ?_
              refine e_any3 5 9 16 rfl rfl rfl (by kernel_rfl) ?_ ?_ ?_
              · skip
                refine o_callP (rSign_fn la lc l i 45 45 (by decide)) rfl rfl rfl (fun w st => (RdK.old0 hw).out w st) (fun v146 hv146 => ?_)
                subst hv146
                refine o_nil ?_
                refine x_oneS (by exact HSub.nil) ?_
                refine e_any2 9 16 rfl rfl (by kernel_rfl) ?_ ?_
                · skip
                  refine o_step rfl (s_field rfl rfl (by decide)) ?_
                  refine o_nil ?_
                  refine x_oneS (by exact HSub.nil) ?_
                  refine e_any2 10 16 rfl rfl (by kernel_rfl) ?_ ?_
                  · skip
                    refine o_step rfl (s_ld rfl ((RdK.old0 hw).ld i 0 (mk0_get hil) rfl (by decide) (by omega))) ?_
                    refine o_nil ?_
                    refine x_oneS (by exact HSub.nil) ?_
                    refine e_one 16 rfl (by kernel_rfl) ?_
                    refine o_bs (E := Eb) (xs := [(mk0 l i).b]) (vs := [_]) rfl rfl rfl rfl rfl (by decide) (by decide) fun b157 S157 hS157 => ?_
                    refine o_nil ?_
                    refine x_oneS (by exact HSub.nil) ?_
                    refine e_one 17 rfl (by kernel_rfl) ?_
                    refine o_callP (rOf_fn (some ⟨b157, 0, none⟩) 1 [(mk0 l i).b]) rfl rfl rfl (fun w st => (hS157.rdk hiA).out w st) (fun v158 hv158 => ?_)
                    subst hv158
                    refine o_nil ?_
                    refine x_oneS (by exact HSub.nil) ?_
                    exact e_lst (by kernel_rfl) (hJ () _ _ sbA sbA (by repeat (first | exact HSub.refl _ | exact HSub.nil | refine HSub.takeC pkB ?_)))
                  · skip
                    refine o_bs (E := Eb) (xs := [(mk0 l i).b]) (vs := [_]) rfl rfl rfl rfl rfl (by decide) (by decide) fun b157 S157 hS157 => ?_
                    refine o_nil ?_
                    refine x_oneS (by exact HSub.nil) ?_
                    refine e_any2 10 17 rfl rfl (by kernel_rfl) ?_ ?_
                    · skip
                      refine o_step rfl (s_ld rfl ((RdK.old0 hw).ld i 0 (mk0_get hil) rfl (by decide) (by omega))) ?_
                      refine o_nil ?_
                      refine x_oneS (by exact HSub.nil) ?_
                      refine e_one 17 rfl (by kernel_rfl) ?_
                      refine o_callP (rOf_fn (some ⟨b157, 0, none⟩) 1 [(mk0 l i).b]) rfl rfl rfl (fun w st => (hS157.rdk hiA).out w st) (fun v158 hv158 => ?_)
                      subst hv158
                      refine o_nil ?_
                      refine x_oneS (by exact HSub.nil) ?_
                      exact e_lst (by kernel_rfl) (hJ () _ _ sbA sbA (by repeat (first | exact HSub.refl _ | exact HSub.nil | refine HSub.takeC pkB ?_)))
                    · skip
                      refine o_callP (rOf_fn (some ⟨b157, 0, none⟩) 1 [(mk0 l i).b]) rfl rfl rfl (fun w st => (hS157.rdk hiA).out w st) (fun v158 hv158 => ?_)
                      subst hv158
                      refine o_nil ?_
                      refine x_oneS (by exact HSub.nil) ?_
                      refine e_one 10 rfl (by kernel_rfl) ?_
                      refine o_step rfl (s_ld rfl ((RdK.old0 hw).ld i 0 (mk0_get hil) rfl (by decide) (by omega))) ?_
                      refine o_nil ?_
                      refine x_oneS (by exact HSub.nil) ?_
                      exact e_lst (by kernel_rfl) (hJ () _ _ sbA sbA (by repeat (first | exact HSub.refl _ | exact HSub.nil | refine HSub.takeC pkB ?_)))
                · skip
                  refine o_bs (E := Eb) (xs := [(mk0 l i).b]) (vs := [_]) rfl rfl rfl rfl rfl (by decide) (by decide) fun b157 S157 hS157 => ?_
                  refine o_nil ?_
                  refine x_oneS (by exact HSub.nil) ?_
                  refine e_any2 9 17 rfl rfl (by kernel_rfl) ?_ ?_
                  · skip
                    refine o_step rfl (s_field rfl rfl (by decide)) ?_
                    refine o_nil ?_
                    refine x_oneS (by exact HSub.nil) ?_
                    refine e_any2 10 17 rfl rfl (by kernel_rfl) ?_ ?_
                    · skip
                      refine o_step rfl (s_ld rfl ((RdK.old0 hw).ld i 0 (mk0_get hil) rfl (by decide) (by omega))) ?_
                      refine o_nil ?_
                      refine x_oneS (by exact HSub.nil) ?_
                      refine e_one 17 rfl (by kernel_rfl) ?_
                      refine o_callP (rOf_fn (some ⟨b157, 0, none⟩) 1 [(mk0 l i).b]) rfl rfl rfl (fun w st => (hS157.rdk hiA).out w st) (fun v158 hv158 => ?_)
                      subst hv158
                      refine o_nil ?_
                      refine x_oneS (by exact HSub.nil) ?_
                      exact e_lst (by kernel_rfl) (hJ () _ _ sbA sbA (by repeat (first | exact HSub.refl _ | exact HSub.nil | refine HSub.takeC pkB ?_)))
                    · skip
                      refine o_callP (rOf_fn (some ⟨b157, 0, none⟩) 1 [(mk0 l i).b]) rfl rfl rfl (fun w st => (hS157.rdk hiA).out w st) (fun v158 hv158 => ?_)
                      subst hv158
                      refine o_nil ?_
                      refine x_oneS (by exact HSub.nil) ?_
                      refine e_one 10 rfl (by kernel_rfl) ?_
                      refine o_step rfl (s_ld rfl ((RdK.old0 hw).ld i 0 (mk0_get hil) rfl (by decide) (by omega))) ?_
                      refine o_nil ?_
                      refine x_oneS (by exact HSub.nil) ?_
                      exact e_lst (by kernel_rfl) (hJ () _ _ sbA sbA (by repeat (first | exact HSub.refl _ | exact HSub.nil | refine HSub.takeC pkB ?_)))
                  · skip
                    refine o_callP (rOf_fn (some ⟨b157, 0, none⟩) 1 [(mk0 l i).b]) rfl rfl rfl (fun w st => (hS157.rdk hiA).out w st) (fun v158 hv158 => ?_)
                    subst hv158
                    refine o_nil ?_
                    refine x_oneS (by exact HSub.nil) ?_
                    refine e_one 9 rfl (by kernel_rfl) ?_
                    refine o_step rfl (s_field rfl rfl (by decide)) ?_
                    refine o_nil ?_
                    refine x_oneS (by exact HSub.nil) ?_
                    refine e_one 10 rfl (by kernel_rfl) ?_
                    refine o_step rfl (s_ld rfl ((RdK.old0 hw).ld i 0 (mk0_get hil) rfl (by decide) (by omega))) ?_
                    refine o_nil ?_
                    refine x_oneS (by exact HSub.nil) ?_
                    exact e_lst (by kernel_rfl) (hJ () _ _ sbA sbA (by repeat (first | exact HSub.refl _ | exact HSub.nil | refine HSub.takeC pkB ?_)))
              · skip
                refine o_step rfl (s_field rfl rfl (by decide)) ?_
                refine o_nil ?_
                refine x_oneS (by exact HSub.nil) ?_
                refine e_any3 5 10 16 rfl rfl rfl (by kernel_rfl) ?_ ?_ ?_
                · skip
                  refine o_callP (rSign_fn la lc l i 45 45 (by decide)) rfl rfl rfl (fun w st => (RdK.old0 hw).out w st) (fun v146 hv146 => ?_)
                  subst hv146
                  refine o_nil ?_
                  refine x_oneS (by exact HSub.nil) ?_
                  refine e_any2 10 16 rfl rfl (by kernel_rfl) ?_ ?_
                  · skip
                    refine o_step rfl (s_ld rfl ((RdK.old0 hw).ld i 0 (mk0_get hil) rfl (by decide) (by omega))) ?_
                    refine o_nil ?_
                    refine x_oneS (by exact HSub.nil) ?_
                    refine e_one 16 rfl (by kernel_rfl) ?_
                    refine o_bs (E := Eb) (xs := [(mk0 l i).b]) (vs := [_]) rfl rfl rfl rfl rfl (by decide) (by decide) fun b157 S157 hS157 => ?_
                    refine o_nil ?_
                    refine x_oneS (by exact HSub.nil) ?_
                    refine e_one 17 rfl (by kernel_rfl) ?_
                    refine o_callP (rOf_fn (some ⟨b157, 0, none⟩) 1 [(mk0 l i).b]) rfl rfl rfl (fun w st => (hS157.rdk hiA).out w st) (fun v158 hv158 => ?_)
                    subst hv158
                    refine o_nil ?_
                    refine x_oneS (by exact HSub.nil) ?_
                    exact e_lst (by kernel_rfl) (hJ () _ _ sbA sbA (by repeat (first | exact HSub.refl _ | exact HSub.nil | refine HSub.takeC pkB ?_)))
                  · skip
                    refine o_bs (E := Eb) (xs := [(mk0 l i).b]) (vs := [_]) rfl rfl rfl rfl rfl (by decide) (by decide) fun b157 S157 hS157 => ?_
                    refine o_nil ?_
                    refine x_oneS (by exact HSub.nil) ?_
                    refine e_any2 10 17 rfl rfl (by kernel_rfl) ?_ ?_
                    · skip
                      refine o_step rfl (s_ld rfl ((RdK.old0 hw).ld i 0 (mk0_get hil) rfl (by decide) (by omega))) ?_
                      refine o_nil ?_
                      refine x_oneS (by exact HSub.nil) ?_
                      refine e_one 17 rfl (by kernel_rfl) ?_
                      refine o_callP (rOf_fn (some ⟨b157, 0, none⟩) 1 [(mk0 l i).b]) rfl rfl rfl (fun w st => (hS157.rdk hiA).out w st) (fun v158 hv158 => ?_)
                      subst hv158
                      refine o_nil ?_
                      refine x_oneS (by exact HSub.nil) ?_
                      exact e_lst (by kernel_rfl) (hJ () _ _ sbA sbA (by repeat (first | exact HSub.refl _ | exact HSub.nil | refine HSub.takeC pkB ?_)))
                    · skip
                      refine o_callP (rOf_fn (some ⟨b157, 0, none⟩) 1 [(mk0 l i).b]) rfl rfl rfl (fun w st => (hS157.rdk hiA).out w st) (fun v158 hv158 => ?_)
                      subst hv158
                      refine o_nil ?_
                      refine x_oneS (by exact HSub.nil) ?_
                      refine e_one 10 rfl (by kernel_rfl) ?_
                      refine o_step rfl (s_ld rfl ((RdK.old0 hw).ld i 0 (mk0_get hil) rfl (by decide) (by omega))) ?_
                      refine o_nil ?_
                      refine x_oneS (by exact HSub.nil) ?_
                      exact e_lst (by kernel_rfl) (hJ () _ _ sbA sbA (by repeat (first | exact HSub.refl _ | exact HSub.nil | refine HSub.takeC pkB ?_)))
                · skip
                  refine o_step rfl (s_ld rfl ((RdK.old0 hw).ld i 0 (mk0_get hil) rfl (by decide) (by omega))) ?_
                  refine o_nil ?_
                  refine x_oneS (by exact HSub.nil) ?_
                  refine e_any2 5 16 rfl rfl (by kernel_rfl) ?_ ?_
                  · skip
                    refine o_callP (rSign_fn la lc l i 45 45 (by decide)) rfl rfl rfl (fun w st => (RdK.old0 hw).out w st) (fun v146 hv146 => ?_)
                    subst hv146
                    refine o_nil ?_
                    refine x_oneS (by exact HSub.nil) ?_
                    refine e_one 16 rfl (by kernel_rfl) ?_
                    refine o_bs (E := Eb) (xs := [(mk0 l i).b]) (vs := [_]) rfl rfl rfl rfl rfl (by decide) (by decide) fun b157 S157 hS157 => ?_
                    refine o_nil ?_
                    refine x_oneS (by exact HSub.nil) ?_
                    refine e_one 17 rfl (by kernel_rfl) ?_
                    refine o_callP (rOf_fn (some ⟨b157, 0, none⟩) 1 [(mk0 l i).b]) rfl rfl rfl (fun w st => (hS157.rdk hiA).out w st) (fun v158 hv158 => ?_)
                    subst hv158
                    refine o_nil ?_
                    refine x_oneS (by exact HSub.nil) ?_
                    exact e_lst (by kernel_rfl) (hJ () _ _ sbA sbA (by repeat (first | exact HSub.refl _ | exact HSub.nil | refine HSub.takeC pkB ?_)))
                  · skip
                    refine o_bs (E := Eb) (xs := [(mk0 l i).b]) (vs := [_]) rfl rfl rfl rfl rfl (by decide) (by decide) fun b157 S157 hS157 => ?_
                    refine o_nil ?_
                    refine x_oneS (by exact HSub.nil) ?_
                    refine e_one 5 rfl (by kernel_rfl) ?_
                    refine o_callP (rSign_fn la lc l i 45 45 (by decide)) rfl rfl rfl (fun w st => (RdK.old0 hw).out w st) (fun v146 hv146 => ?_)
                    subst hv146
                    refine o_nil ?_
                    refine x_oneS (by exact HSub.nil) ?_
                    refine e_one 17 rfl (by kernel_rfl) ?_
                    refine o_callP (rOf_fn (some ⟨b157, 0, none⟩) 1 [(mk0 l i).b]) rfl rfl rfl (fun w st => (hS157.rdk hiA).out w st) (fun v158 hv158 => ?_)
                    subst hv158
                    refine o_nil ?_
                    refine x_oneS (by exact HSub.nil) ?_
                    exact e_lst (by kernel_rfl) (hJ () _ _ sbA sbA (by repeat (first | exact HSub.refl _ | exact HSub.nil | refine HSub.takeC pkB ?_)))
                · skip
                  refine o_bs (E := Eb) (xs := [(mk0 l i).b]) (vs := [_]) rfl rfl rfl rfl rfl (by decide) (by decide) fun b157 S157 hS157 => ?_
                  refine o_nil ?_
                  refine x_oneS (by exact HSub.nil) ?_
                  refine e_any2 5 10 rfl rfl (by kernel_rfl) ?_ ?_
                  · skip
                    refine o_callP (rSign_fn la lc l i 45 45 (by decide)) rfl rfl rfl (fun w st => (RdK.old0 hw).out w st) (fun v146 hv146 => ?_)
                    subst hv146
                    refine o_nil ?_
                    refine x_oneS (by exact HSub.nil) ?_
                    refine e_any2 10 17 rfl rfl (by kernel_rfl) ?_ ?_
                    · skip
                      refine o_step rfl (s_ld rfl ((RdK.old0 hw).ld i 0 (mk0_get hil) rfl (by decide) (by omega))) ?_
                      refine o_nil ?_
                      refine x_oneS (by exact HSub.nil) ?_
                      refine e_one 17 rfl (by kernel_rfl) ?_
                      refine o_callP (rOf_fn (some ⟨b157, 0, none⟩) 1 [(mk0 l i).b]) rfl rfl rfl (fun w st => (hS157.rdk hiA).out w st) (fun v158 hv158 => ?_)
                      subst hv158
                      refine o_nil ?_
                      refine x_oneS (by exact HSub.nil) ?_
                      exact e_lst (by kernel_rfl) (hJ () _ _ sbA sbA (by repeat (first | exact HSub.refl _ | exact HSub.nil | refine HSub.takeC pkB ?_)))
                    · skip
                      refine o_callP (rOf_fn (some ⟨b157, 0, none⟩) 1 [(mk0 l i).b]) rfl rfl rfl (fun w st => (hS157.rdk hiA).out w st) (fun v158 hv158 => ?_)
                      subst hv158
                      refine o_nil ?_
                      refine x_oneS (by exact HSub.nil) ?_
                      refine e_one 10 rfl (by kernel_rfl) ?_
                      refine o_step rfl (s_ld rfl ((RdK.old0 hw).ld i 0 (mk0_get hil) rfl (by decide) (by omega))) ?_
                      refine o_nil ?_
                      refine x_oneS (by exact HSub.nil) ?_
                      exact e_lst (by kernel_rfl) (hJ () _ _ sbA sbA (by repeat (first | exact HSub.refl _ | exact HSub.nil | refine HSub.takeC pkB ?_)))
                  · skip
                    refine o_step rfl (s_ld rfl ((RdK.old0 hw).ld i 0 (mk0_get hil) rfl (by decide) (by omega))) ?_
                    refine o_nil ?_
                    refine x_oneS (by exact HSub.nil) ?_
                    refine e_one 5 rfl (by kernel_rfl) ?_
                    refine o_callP (rSign_fn la lc l i 45 45 (by decide)) rfl rfl rfl (fun w st => (RdK.old0 hw).out w st) (fun v146 hv146 => ?_)
                    subst hv146
                    refine o_nil ?_
                    refine x_oneS (by exact HSub.nil) ?_
                    refine e_one 17 rfl (by kernel_rfl) ?_
                    refine o_callP (rOf_fn (some ⟨b157, 0, none⟩) 1 [(mk0 l i).b]) rfl rfl rfl (fun w st => (hS157.rdk hiA).out w st) (fun v158 hv158 => ?_)
                    subst hv158
                    refine o_nil ?_
                    refine x_oneS (by exact HSub.nil) ?_
                    exact e_lst (by kernel_rfl) (hJ () _ _ sbA sbA (by repeat (first | exact HSub.refl _ | exact HSub.nil | refine HSub.takeC pkB ?_)))
              · skip
                refine o_bs (E := Eb) (xs := [(mk0 l i).b]) (vs := [_]) rfl rfl rfl rfl rfl (by decide) (by decide) fun b157 S157 hS157 => ?_
                refine o_nil ?_
                refine x_oneS (by exact HSub.nil) ?_
                refine e_any2 5 9 rfl rfl (by kernel_rfl) ?_ ?_
                · skip
                  refine o_callP (rSign_fn la lc l i 45 45 (by decide)) rfl rfl rfl (fun w st => (RdK.old0 hw).out w st) (fun v146 hv146 => ?_)
                  subst hv146
                  refine o_nil ?_
                  refine x_oneS (by exact HSub.nil) ?_
                  refine e_any2 9 17 rfl rfl (by kernel_rfl) ?_ ?_
                  · skip
                    refine o_step rfl (s_field rfl rfl (by decide)) ?_
                    refine o_nil ?_
                    refine x_oneS (by exact HSub.nil) ?_
                    refine e_any2 10 17 rfl rfl (by kernel_rfl) ?_ ?_
                    · skip
                      refine o_step rfl (s_ld rfl ((RdK.old0 hw).ld i 0 (mk0_get hil) rfl (by decide) (by omega))) ?_
                      refine o_nil ?_
                      refine x_oneS (by exact HSub.nil) ?_
                      refine e_one 17 rfl (by kernel_rfl) ?_
                      refine o_callP (rOf_fn (some ⟨b157, 0, none⟩) 1 [(mk0 l i).b]) rfl rfl rfl (fun w st => (hS157.rdk hiA).out w st) (fun v158 hv158 => ?_)
                      subst hv158
                      refine o_nil ?_
                      refine x_oneS (by exact HSub.nil) ?_
                      exact e_lst (by kernel_rfl) (hJ () _ _ sbA sbA (by repeat (first | exact HSub.refl _ | exact HSub.nil | refine HSub.takeC pkB ?_)))
                    · skip
                      refine o_callP (rOf_fn (some ⟨b157, 0, none⟩) 1 [(mk0 l i).b]) rfl rfl rfl (fun w st => (hS157.rdk hiA).out w st) (fun v158 hv158 => ?_)
                      subst hv158
                      refine o_nil ?_
                      refine x_oneS (by exact HSub.nil) ?_
                      refine e_one 10 rfl (by kernel_rfl) ?_
                      refine o_step rfl (s_ld rfl ((RdK.old0 hw).ld i 0 (mk0_get hil) rfl (by decide) (by omega))) ?_
                      refine o_nil ?_
                      refine x_oneS (by exact HSub.nil) ?_
                      exact e_lst (by kernel_rfl) (hJ () _ _ sbA sbA (by repeat (first | exact HSub.refl _ | exact HSub.nil | refine HSub.takeC pkB ?_)))
                  · skip
                    refine o_callP (rOf_fn (some ⟨b157, 0, none⟩) 1 [(mk0 l i).b]) rfl rfl rfl (fun w st => (hS157.rdk hiA).out w st) (fun v158 hv158 => ?_)
                    subst hv158
                    refine o_nil ?_
                    refine x_oneS (by exact HSub.nil) ?_
                    refine e_one 9 rfl (by kernel_rfl) ?_
                    refine o_step rfl (s_field rfl rfl (by decide)) ?_
                    refine o_nil ?_
                    refine x_oneS (by exact HSub.nil) ?_
                    refine e_one 10 rfl (by kernel_rfl) ?_
                    refine o_step rfl (s_ld rfl ((RdK.old0 hw).ld i 0 (mk0_get hil) rfl (by decide) (by omega))) ?_
                    refine o_nil ?_
                    refine x_oneS (by exact HSub.nil) ?_
                    exact e_lst (by kernel_rfl) (hJ () _ _ sbA sbA (by repeat (first | exact HSub.refl _ | exact HSub.nil | refine HSub.takeC pkB ?_)))
                · skip
                  refine o_step rfl (s_field rfl rfl (by decide)) ?_
                  refine o_nil ?_
                  refine x_oneS (by exact HSub.nil) ?_
                  refine e_any2 5 10 rfl rfl (by kernel_rfl) ?_ ?_
                  · skip
                    refine o_callP (rSign_fn la lc l i 45 45 (by decide)) rfl rfl rfl (fun w st => (RdK.old0 hw).out w st) (fun v146 hv146 => ?_)
                    subst hv146
                    refine o_nil ?_
                    refine x_oneS (by exact HSub.nil) ?_
                    refine e_any2 10 17 rfl rfl (by kernel_rfl) ?_ ?_
                    · skip
                      refine o_step rfl (s_ld rfl ((RdK.old0 hw).ld i 0 (mk0_get hil) rfl (by decide) (by omega))) ?_
                      refine o_nil ?_
                      refine x_oneS (by exact HSub.nil) ?_
                      refine e_one 17 rfl (by kernel_rfl) ?_
                      refine o_callP (rOf_fn (some ⟨b157, 0, none⟩) 1 [(mk0 l i).b]) rfl rfl rfl (fun w st => (hS157.rdk hiA).out w st) (fun v158 hv158 => ?_)
                      subst hv158
                      refine o_nil ?_
                      refine x_oneS (by exact HSub.nil) ?_
                      exact e_lst (by kernel_rfl) (hJ () _ _ sbA sbA (by repeat (first | exact HSub.refl _ | exact HSub.nil | refine HSub.takeC pkB ?_)))
                    · skip
                      refine o_callP (rOf_fn (some ⟨b157, 0, none⟩) 1 [(mk0 l i).b]) rfl rfl rfl (fun w st => (hS157.rdk hiA).out w st) (fun v158 hv158 => ?_)
                      subst hv158
                      refine o_nil ?_
                      refine x_oneS (by exact HSub.nil) ?_
                      refine e_one 10 rfl (by kernel_rfl) ?_
                      refine o_step rfl (s_ld rfl ((RdK.old0 hw).ld i 0 (mk0_get hil) rfl (by decide) (by omega))) ?_
                      refine o_nil ?_
                      refine x_oneS (by exact HSub.nil) ?_
                      exact e_lst (by kernel_rfl) (hJ () _ _ sbA sbA (by repeat (first | exact HSub.refl _ | exact HSub.nil | refine HSub.takeC pkB ?_)))
                  · skip
                    refine o_step rfl (s_ld rfl ((RdK.old0 hw).ld i 0 (mk0_get hil) rfl (by decide) (by omega))) ?_
                    refine o_nil ?_
                    refine x_oneS (by exact HSub.nil) ?_
                    refine e_one 5 rfl (by kernel_rfl) ?_
                    refine o_callP (rSign_fn la lc l i 45 45 (by decide)) rfl rfl rfl (fun w st => (RdK.old0 hw).out w st) (fun v146 hv146 => ?_)
                    subst hv146
                    refine o_nil ?_
                    refine x_oneS (by exact HSub.nil) ?_
                    refine e_one 17 rfl (by kernel_rfl) ?_
                    refine o_callP (rOf_fn (some ⟨b157, 0, none⟩) 1 [(mk0 l i).b]) rfl rfl rfl (fun w st => (hS157.rdk hiA).out w st) (fun v158 hv158 => ?_)
                    subst hv158
                    refine o_nil ?_
                    refine x_oneS (by exact HSub.nil) ?_
                    exact e_lst (by kernel_rfl) (hJ () _ _ sbA sbA (by repeat (first | exact HSub.refl _ | exact HSub.nil | refine HSub.takeC pkB ?_)))
            · skip
              refine o_bs (E := Eb) (xs := [(mk0 l i).b]) (vs := [_]) rfl rfl rfl rfl rfl (by decide) (by decide) fun b157 S157 hS157 => ?_
              refine o_nil ?_
              refine x_oneS (by exact HSub.nil) ?_
              refine e_any2 5 8 rfl rfl (by kernel_rfl) ?_ ?_
              · skip
                refine o_callP (rSign_fn la lc l i 45 45 (by decide)) rfl rfl rfl (fun w st => (RdK.old0 hw).out w st) (fun v146 hv146 => ?_)
                subst hv146
                refine o_nil ?_
                refine x_oneS (by exact HSub.nil) ?_
                refine e_any2 8 17 rfl rfl (by kernel_rfl) ?_ ?_
                · skip
                  refine o_step rfl (s_idx rfl rfl hsl (by omega)) ?_
                  refine o_nil ?_
                  refine x_oneS (by exact HSub.nil) ?_
                  refine e_any2 9 17 rfl rfl (by kernel_rfl) ?_ ?_
                  · skip
                    refine o_step rfl (s_field rfl rfl (by decide)) ?_
                    refine o_nil ?_
                    refine x_oneS (by exact HSub.nil) ?_
                    refine e_any2 10 17 rfl rfl (by kernel_rfl) ?_ ?_
                    · skip
                      refine o_step rfl (s_ld rfl ((RdK.old0 hw).ld i 0 (mk0_get hil) rfl (by decide) (by omega))) ?_
                      refine o_nil ?_
                      refine x_oneS (by exact HSub.nil) ?_
                      refine e_one 17 rfl (by kernel_rfl) ?_
                      refine o_callP (rOf_fn (some ⟨b157, 0, none⟩) 1 [(mk0 l i).b]) rfl rfl rfl (fun w st => (hS157.rdk hiA).out w st) (fun v158 hv158 => ?_)
                      subst hv158
                      refine o_nil ?_
                      refine x_oneS (by exact HSub.nil) ?_
                      exact e_lst (by kernel_rfl) (hJ () _ _ sbA sbA (by repeat (first | exact HSub.refl _ | exact HSub.nil | refine HSub.takeC pkB ?_)))
                    · skip
                      refine o_callP (rOf_fn (some ⟨b157, 0, none⟩) 1 [(mk0 l i).b]) rfl rfl rfl (fun w st => (hS157.rdk hiA).out w st) (fun v158 hv158 => ?_)
                      subst hv158
                      refine o_nil ?_
                      refine x_oneS (by exact HSub.nil) ?_
                      refine e_one 10 rfl (by kernel_rfl) ?_
                      refine o_step rfl (s_ld rfl ((RdK.old0 hw).ld i 0 (mk0_get hil) rfl (by decide) (by omega))) ?_
                      refine o_nil ?_
                      refine x_oneS (by exact HSub.nil) ?_
                      exact e_lst (by kernel_rfl) (hJ () _ _ sbA sbA (by repeat (first | exact HSub.refl _ | exact HSub.nil | refine HSub.takeC pkB ?_)))
                  · skip
                    refine o_callP (rOf_fn (some ⟨b157, 0, none⟩) 1 [(mk0 l i).b]) rfl rfl rfl (fun w st => (hS157.rdk hiA).out w st) (fun v158 hv158 => ?_)
                    subst hv158
                    refine o_nil ?_
                    refine x_oneS (by exact HSub.nil) ?_
                    refine e_one 9 rfl (by kernel_rfl) ?_
                    refine o_step rfl (s_field rfl rfl (by decide)) ?_
                    refine o_nil ?_
                    refine x_oneS (by exact HSub.nil) ?_
                    refine e_one 10 rfl (by kernel_rfl) ?_
                    refine o_step rfl (s_ld rfl ((RdK.old0 hw).ld i 0 (mk0_get hil) rfl (by decide) (by omega))) ?_
                    refine o_nil ?_
                    refine x_oneS (by exact HSub.nil) ?_
                    exact e_lst (by kernel_rfl) (hJ () _ _ sbA sbA (by repeat (first | exact HSub.refl _ | exact HSub.nil | refine HSub.takeC pkB ?_)))
                · skip
                  refine o_callP (rOf_fn (some ⟨b157, 0, none⟩) 1 [(mk0 l i).b]) rfl rfl rfl (fun w st => (hS157.rdk hiA).out w st) (fun v158 hv158 => ?_)
                  subst hv158
                  refine o_nil ?_
                  refine x_oneS (by exact HSub.nil) ?_
                  refine e_one 8 rfl (by kernel_rfl) ?_
                  refine o_step rfl (s_idx rfl rfl hsl (by omega)) ?_
                  refine o_nil ?_
                  refine x_oneS (by exact HSub.nil) ?_
                  refine e_one 9 rfl (by kernel_rfl) ?_
                  refine o_step rfl (s_field rfl rfl (by decide)) ?_
                  refine o_nil ?_
                  refine x_oneS (by exact HSub.nil) ?_
                  refine e_one 10 rfl (by kernel_rfl) ?_
                  refine o_step rfl (s_ld rfl ((RdK.old0 hw).ld i 0 (mk0_get hil) rfl (by decide) (by omega))) ?_
                  refine o_nil ?_
                  refine x_oneS (by exact HSub.nil) ?_
                  exact e_lst (by kernel_rfl) (hJ () _ _ sbA sbA (by repeat (first | exact HSub.refl _ | exact HSub.nil | refine HSub.takeC pkB ?_)))
              · skip
                refine o_step rfl (s_idx rfl rfl hsl (by omega)) ?_
                refine o_nil ?_
                refine x_oneS (by exact HSub.nil) ?_
                refine e_any2 5 9 rfl rfl (by kernel_rfl) ?_ ?_
                · skip
                  refine o_callP (rSign_fn la lc l i 45 45 (by decide)) rfl rfl rfl (fun w st => (RdK.old0 hw).out w st) (fun v146 hv146 => ?_)
                  subst hv146
                  refine o_nil ?_
                  refine x_oneS (by exact HSub.nil) ?_
                  refine e_any2 9 17 rfl rfl (by kernel_rfl) ?_ ?_
                  · skip
                    refine o_step rfl (s_field rfl rfl (by decide)) ?_
                    refine o_nil ?_
                    refine x_oneS (by exact HSub.nil) ?_
                    refine e_any2 10 17 rfl rfl (by kernel_rfl) ?_ ?_
                    · skip
                      refine o_step rfl (s_ld rfl ((RdK.old0 hw).ld i 0 (mk0_get hil) rfl (by decide) (by omega))) ?_
                      refine o_nil ?_
                      refine x_oneS (by exact HSub.nil) ?_
                      refine e_one 17 rfl (by kernel_rfl) ?_
                      refine o_callP (rOf_fn (some ⟨b157, 0, none⟩) 1 [(mk0 l i).b]) rfl rfl rfl (fun w st => (hS157.rdk hiA).out w st) (fun v158 hv158 => ?_)
                      subst hv158
                      refine o_nil ?_
                      refine x_oneS (by exact HSub.nil) ?_
                      exact e_lst (by kernel_rfl) (hJ () _ _ sbA sbA (by repeat (first | exact HSub.refl _ | exact HSub.nil | refine HSub.takeC pkB ?_)))
                    · skip
                      refine o_callP (rOf_fn (some ⟨b157, 0, none⟩) 1 [(mk0 l i).b]) rfl rfl rfl (fun w st => (hS157.rdk hiA).out w st) (fun v158 hv158 => ?_)
                      subst hv158
                      refine o_nil ?_
                      refine x_oneS (by exact HSub.nil) ?_
                      refine e_one 10 rfl (by kernel_rfl) ?_
                      refine o_step rfl (s_ld rfl ((RdK.old0 hw).ld i 0 (mk0_get hil) rfl (by decide) (by omega))) ?_
                      refine o_nil ?_
                      refine x_oneS (by exact HSub.nil) ?_
                      exact e_lst (by kernel_rfl) (hJ () _ _ sbA sbA (by repeat (first | exact HSub.refl _ | exact HSub.nil | refine HSub.takeC pkB ?_)))
                  · skip
                    refine o_callP (rOf_fn (some ⟨b157, 0, none⟩) 1 [(mk0 l i).b]) rfl rfl rfl (fun w st => (hS157.rdk hiA).out w st) (fun v158 hv158 => ?_)
                    subst hv158
                    refine o_nil ?_
                    refine x_oneS (by exact HSub.nil) ?_
                    refine e_one 9 rfl (by kernel_rfl) ?_
                    refine o_step rfl (s_field rfl rfl (by decide)) ?_
                    refine o_nil ?_
                    refine x_oneS (by exact HSub.nil) ?_
                    refine e_one 10 rfl (by kernel_rfl) ?_
                    refine o_step rfl (s_ld rfl ((RdK.old0 hw).ld i 0 (mk0_get hil) rfl (by decide) (by omega))) ?_
                    refine o_nil ?_
                    refine x_oneS (by exact HSub.nil) ?_
                    exact e_lst (by kernel_rfl) (hJ () _ _ sbA sbA (by repeat (first | exact HSub.refl _ | exact HSub.nil | refine HSub.takeC pkB ?_)))
                · skip
                  refine o_step rfl (s_field rfl rfl (by decide)) ?_
                  refine o_nil ?_
                  refine x_oneS (by exact HSub.nil) ?_
                  refine e_any2 5 10 rfl rfl (by kernel_rfl) ?_ ?_
                  · skip
                    refine o_callP (rSign_fn la lc l i 45 45 (by decide)) rfl rfl rfl (fun w st => (RdK.old0 hw).out w st) (fun v146 hv146 => ?_)
                    subst hv146
                    refine o_nil ?_
                    refine x_oneS (by exact HSub.nil) ?_
                    refine e_any2 10 17 rfl rfl (by kernel_rfl) ?_ ?_
                    · skip
                      refine o_step rfl (s_ld rfl ((RdK.old0 hw).ld i 0 (mk0_get hil) rfl (by decide) (by omega))) ?_
                      refine o_nil ?_
                      refine x_oneS (by exact HSub.nil) ?_
                      refine e_one 17 rfl (by kernel_rfl) ?_
                      refine o_callP (rOf_fn (some ⟨b157, 0, none⟩) 1 [(mk0 l i).b]) rfl rfl rfl (fun w st => (hS157.rdk hiA).out w st) (fun v158 hv158 => ?_)
                      subst hv158
                      refine o_nil ?_
                      refine x_oneS (by exact HSub.nil) ?_
                      exact e_lst (by kernel_rfl) (hJ () _ _ sbA sbA (by repeat (first | exact HSub.refl _ | exact HSub.nil | refine HSub.takeC pkB ?_)))
                    · skip
                      refine o_callP (rOf_fn (some ⟨b157, 0, none⟩) 1 [(mk0 l i).b]) rfl rfl rfl (fun w st => (hS157.rdk hiA).out w st) (fun v158 hv158 => ?_)
                      subst hv158
                      refine o_nil ?_
                      refine x_oneS (by exact HSub.nil) ?_
                      refine e_one 10 rfl (by kernel_rfl) ?_
                      refine o_step rfl (s_ld rfl ((RdK.old0 hw).ld i 0 (mk0_get hil) rfl (by decide) (by omega))) ?_
                      refine o_nil ?_
                      refine x_oneS (by exact HSub.nil) ?_
                      exact e_lst (by kernel_rfl) (hJ () _ _ sbA sbA (by repeat (first | exact HSub.refl _ | exact HSub.nil | refine HSub.takeC pkB ?_)))
                  · skip
                    refine o_step rfl (s_ld rfl ((RdK.old0 hw).ld i 0 (mk0_get hil) rfl (by decide) (by omega))) ?_
                    refine o_nil ?_
                    refine x_oneS (by exact HSub.nil) ?_
                    refine e_one 5 rfl (by kernel_rfl) ?_
                    refine o_callP (rSign_fn la lc l i 45 45 (by decide)) rfl rfl rfl (fun w st => (RdK.old0 hw).out w st) (fun v146 hv146 => ?_)
                    subst hv146
                    refine o_nil ?_
                    refine x_oneS (by exact HSub.nil) ?_
                    refine e_one 17 rfl (by kernel_rfl) ?_
                    refine o_callP (rOf_fn (some ⟨b157, 0, none⟩) 1 [(mk0 l i).b]) rfl rfl rfl (fun w st => (hS157.rdk hiA).out w st) (fun v158 hv158 => ?_)
                    subst hv158
                    refine o_nil ?_
                    refine x_oneS (by exact HSub.nil) ?_
                    exact e_lst (by kernel_rfl) (hJ () _ _ sbA sbA (by repeat (first | exact HSub.refl _ | exact HSub.nil | refine HSub.takeC pkB ?_)))
          · rintro _
            refine e_one 18 rfl (by kernel_rfl) ?_
            refine o_step rfl (step_cast (v' := .agg (Ert (okR i (sg l i 45) (oneP l i))).toArray) (s_build (cs := [_, _, _, _, _, _, _, _, _, _]) (vs := [_, _, _, _, _, _]) rfl rfl (.cons rfl rfl rfl rfl rfl (.cons rfl rfl rfl rfl rfl (.cons rfl rfl rfl rfl rfl (.cons rfl rfl rfl rfl rfl (.cons rfl rfl rfl rfl rfl (.cons rfl rfl rfl rfl rfl (.nil)))))))) (rfl)) ?_
            refine o_nil ?_
            refine x_oneS (by exact HSub.nil) ?_
            refine e_one 19 rfl (by kernel_rfl) ?_
            refine o_stW rfl rfl upA (ert_len _) (ert_len _) (ert_one _) ?_
            refine o_nil ?_
            refine x_oneS (by exact HSub.nil) ?_
            refine e_done (by kernel_rfl) ?_
            refine x_then (hK34 _ _ ?_)
            refine c_ret ?_
            refine ?_
            exact x_ret rfl (.agg inferInstance inferInstance rfl (RdPK.cels (.own meA)) (ert_len _) (.nil)) (by unfold thV; rw [hN]; rfl)
      · intro _ hJ7
        refine c_region ?_
        refine o_step rfl (s_move rfl) ?_
        refine o_step rfl (s_move rfl) ?_
        refine o_callP (rSign_fn la lc l (i) 91 91 (by decide)) rfl rfl rfl (fun w st => (RdK.old0 hw).out w st) (fun v70 hv70 => ?_)
        subst hv70
        cases h91 : sg l (i) 91
        · skip
          have hN : thP l i i = .ok (oneP l i) := thP_plain hil h91
          refine o_step rfl (s_move rfl) ?_
          refine o_no rfl rfl rfl rfl ?_
          refine o_no rfl rfl rfl rfl ?_
          refine o_no rfl rfl rfl rfl ?_
          refine o_no rfl rfl rfl rfl ?_
          refine o_no rfl rfl rfl rfl ?_
          refine o_noU rfl rfl rfl ?_
          refine o_noU rfl rfl rfl ?_
          refine o_noU rfl rfl rfl ?_
          refine o_noU rfl rfl rfl ?_
          refine o_no rfl rfl rfl rfl ?_
          refine o_step rfl (s_pick_f rfl rfl) ?_
          refine o_nil ?_
          exact x_then (hJ7 false _ _ ⟨(fun h => by cases h), fun _ => hN⟩ sbA sbA (by repeat (first | exact HSub.refl _ | exact HSub.nil | refine HSub.takeC pkB ?_)))
        · skip
          have h58 := hJ0 h91
          refine o_step rfl (s_move rfl) ?_
          refine o_yes rfl rfl ?_
          refine o_step rfl (s_move rfl) ?_
          refine o_yes rfl rfl ?_
          refine o_step rfl (s_move rfl) ?_
          refine o_yes rfl rfl ?_
          refine o_step rfl (s_add rfl rfl (by omega)) ?_
          refine o_yes rfl rfl ?_
          refine o_callP (rSign_fn la lc l (i + 1) 61 61 (by decide)) rfl rfl rfl (fun w st => (RdK.old0 hw).out w st) (fun v75 hv75 => ?_)
          subst hv75
          cases h61 : sg l (i + 1) 61
          · skip
            refine o_yes rfl rfl ?_
            refine o_step rfl (s_move rfl) ?_
            refine o_yes rfl rfl ?_
            refine o_step rfl (s_move rfl) ?_
            refine o_yes rfl rfl ?_
            refine o_step rfl (s_move rfl) ?_
            refine o_yes rfl rfl ?_
            refine o_step rfl (s_add rfl rfl (by omega)) ?_
            refine o_yes rfl rfl ?_
            refine o_callP (rSign_fn la lc l (i + 1) 46 46 (by decide)) rfl rfl rfl (fun w st => (RdK.old0 hw).out w st) (fun v80 hv80 => ?_)
            subst hv80
            cases h46 : sg l (i + 1) 46
            · skip
              have hN : thP l i i = .ok (oneP l i) := thP_else h91 h58 h61 h46
              refine o_yes rfl rfl ?_
              refine o_step rfl (s_pick_f rfl rfl) ?_
              refine o_step rfl (s_pick_t rfl rfl) ?_
              refine o_nil ?_
              exact x_then (hJ7 false _ _ ⟨(fun h => by cases h), fun _ => hN⟩ sbA sbA (by repeat (first | exact HSub.refl _ | exact HSub.nil | refine HSub.takeC pkB ?_)))
            · skip
              refine o_yes rfl rfl ?_
              refine o_step rfl (s_pick_f rfl rfl) ?_
              refine o_step rfl (s_pick_t rfl rfl) ?_
              refine o_nil ?_
              exact x_then (hJ7 true _ _ ⟨fun _ => ⟨h91, 46, h46, .inr rfl⟩, (fun h => by cases h)⟩ sbA sbA (by repeat (first | exact HSub.refl _ | exact HSub.nil | refine HSub.takeC pkB ?_)))
          · skip
            refine o_yes rfl rfl ?_
            refine o_step rfl (s_move rfl) ?_
            refine o_no rfl rfl rfl rfl ?_
            refine o_no rfl rfl rfl rfl ?_
            refine o_no rfl rfl rfl rfl ?_
            refine o_no rfl rfl rfl rfl ?_
            refine o_yes rfl rfl ?_
            refine o_step rfl (s_pick_t rfl rfl) ?_
            refine o_step rfl (s_pick_t rfl rfl) ?_
            refine o_nil ?_
            exact x_then (hJ7 true _ _ ⟨fun _ => ⟨h91, 61, h61, .inl rfl⟩, (fun h => by cases h)⟩ sbA sbA (by repeat (first | exact HSub.refl _ | exact HSub.nil | refine HSub.takeC pkB ?_)))
    · intro _ hJ5
      refine c_seq fun _ hK35 => ?_
      refine c_region ?_
      refine o_step rfl (s_move rfl) ?_
      refine o_step rfl (s_move rfl) ?_
      refine o_callP (rSign_fn la lc l (i) 91 91 (by decide)) rfl rfl rfl (fun w st => (RdK.old0 hw).out w st) (fun v19 hv19 => ?_)
      subst hv19
      cases h91 : sg l (i) 91
      · skip
        refine o_step rfl (s_move rfl) ?_
        refine o_no rfl rfl rfl rfl ?_
        refine o_no rfl rfl rfl rfl ?_
        refine o_no rfl rfl rfl rfl ?_
        refine o_no rfl rfl rfl rfl ?_
        refine o_step rfl (s_pick_f rfl rfl) ?_
        refine o_nil ?_
        refine x_then (hK35 _ _ ?_)
        refine c_false rfl ?_
        refine c_skip ?_
        exact x_then (hJ5 () _ _ (fun h => absurd h (by rw [h91]; decide)) sbA sbA (by repeat (first | exact HSub.refl _ | exact HSub.nil | refine HSub.takeC pkB ?_)))
      · skip
        refine o_step rfl (s_move rfl) ?_
        refine o_yes rfl rfl ?_
        refine o_step rfl (s_move rfl) ?_
        refine o_yes rfl rfl ?_
        refine o_step rfl (s_move rfl) ?_
        refine o_yes rfl rfl ?_
        refine o_step rfl (s_add rfl rfl (by omega)) ?_
        refine o_yes rfl rfl ?_
        refine o_callP (rSign_fn la lc l (i + 1) 58 58 (by decide)) rfl rfl rfl (fun w st => (RdK.old0 hw).out w st) (fun v24 hv24 => ?_)
        subst hv24
        cases h58 : sg l (i + 1) 58
        · skip
          refine o_step rfl (s_pick_t rfl rfl) ?_
          refine o_nil ?_
          refine x_then (hK35 _ _ ?_)
          refine c_false rfl ?_
          refine c_skip ?_
          exact x_then (hJ5 () _ _ (fun _ => h58) sbA sbA (by repeat (first | exact HSub.refl _ | exact HSub.nil | refine HSub.takeC pkB ?_)))
        · skip
          have hi1l := sg_lt h58
          refine o_step rfl (s_pick_t rfl rfl) ?_
          refine o_nil ?_
          refine x_then (hK35 _ _ ?_)
          refine c_true rfl ?_
          refine c_seq fun _ hK36 => ?_
          refine c_region ?_
          refine o_step rfl (s_assign rfl) ?_
          refine o_nil ?_
          refine x_then (hK36 _ _ ?_)
          refine c_seq fun _ hK37 => ?_
          refine c_seq fun _ hK38 => ?_
          refine c_region ?_
          refine o_step rfl (s_move rfl) ?_
          refine o_step rfl (s_add rfl rfl (by omega)) ?_
          refine o_step rfl (s_assign rfl) ?_
          refine o_nil ?_
          refine x_then (hK38 _ _ ?_)
          refine c_block ?_
          refine c_loop3 (fun (k : Nat) (q : Sl UInt8) (So : Hp) => i + 2 ≤ k ∧ k ≤ l.length ∧ q.xs = bytesM l (i + 2) k ∧ OwnS Eb 1 5 (.slice q.a q.xs.length q.c) q.xs So ∧ nameEnd l (l.length - (i + 2)) (i + 2) = nameEnd l (l.length - k) k) (fun (k : Nat) (q : Sl UInt8) (So : Hp) => [(6, .int .i64 k), (5, .slice q.a q.xs.length q.c)]) [(0, _), (1, _), (4, _)] (fun (k : Nat) (q : Sl UInt8) (So : Hp) => (b4, .cells (Ert zRt).toArray 92 (0, 0)) :: So) (fun (k : Nat) (q : Sl UInt8) (So : Hp) => l.length - k) (i + 2) ⟨none, 0, []⟩ [] ⟨by omega, by omega, bytesM_nil.symm, .nil, rfl⟩ sbA sbA (by repeat (first | exact HSub.refl _ | exact HSub.nil | refine HSub.takeC pkB ?_)) ?_
          rintro k q So ⟨hk1, hk2, hqx, hq, hne⟩
          have hql : q.xs.length ≤ 140737488355328 := by rw [hqx]; exact Nat.le_trans bytesM_len hbl
          refine c_seq fun _ hK39 => ?_
          refine c_seq fun _ hK40 => ?_
          refine c_region ?_
          refine o_step rfl (s_move rfl) ?_
          refine o_step rfl (s_move rfl) ?_
          refine o_step rfl (s_len rfl) ?_
          refine o_step rfl (s_lss rfl rfl) ?_
          refine o_nil ?_
          refine x_then (hK40 _ _ ?_)
          refine c_if rfl (fun hlt => ?_) (fun hlt => ?_)
          · skip
            have hkl : k < l.length := by omega
            have hql2 : q.xs.length < l.length := by rw [hqx]; simp only [bytesM, List.length_map, List.length_take, List.length_drop]; omega
            refine c_skip ?_
            refine x_then (hK39 _ _ ?_)
            refine c_seq fun _ hK41 => ?_
            refine c_block ?_
            refine c_seq fun _ hK42 => ?_
            refine c_seq fun _ hK43 => ?_
            refine c_region ?_
            refine o_step rfl (s_move rfl) ?_
            refine o_step rfl (s_move rfl) ?_
            refine o_callP (rSign_fn la lc l (k) 58 58 (by decide)) rfl rfl rfl (fun w st => (RdK.old0 hw).out w st) (fun v36 hv36 => ?_)
            subst hv36
            cases k58 : sg l (k) 58
            · skip
              refine o_step rfl (s_move rfl) ?_
              refine o_no rfl rfl rfl rfl ?_
              refine o_no rfl rfl rfl rfl ?_
              refine o_no rfl rfl rfl rfl ?_
              refine o_no rfl rfl rfl rfl ?_
              refine o_step rfl (s_pick_f rfl rfl) ?_
              refine o_nil ?_
              refine x_then (hK43 _ _ ?_)
              refine c_false rfl ?_
              refine c_skip ?_
              refine x_then (hK42 _ _ ?_)
              refine c_region ?_
              refine o_step rfl (s_move rfl) ?_
              refine o_step rfl (s_move rfl) ?_
              refine o_step rfl (s_move rfl) ?_
              refine o_step rfl (s_idx rfl rfl hsl (by omega)) ?_
              refine o_step rfl (s_field rfl rfl (by decide)) ?_
              refine o_step rfl (s_ld rfl ((RdK.old0 hw).ld k 0 (mk0_get hkl) rfl (by decide) (by omega))) ?_
              refine o_bs (E := Eb) (xs := [(mk0 l k).b]) (vs := [_]) rfl rfl rfl rfl rfl (by decide) (by decide) fun b64 S64 hS64 => ?_
              have hno : (sg l k 58 && sg l (k + 1) 93) = false := by first | (rw [k58]; rfl) | (rw [k58, k93]; rfl)
              refine o_app hq (hS64.rdk hiA) rfl rfl rfl rfl (by simp; omega) (by simp; omega) rfl pkA fun a65 c65 S65 hS65 => ?_
              refine o_step rfl (s_assign rfl) ?_
              refine o_nil ?_
              refine x_block ?_
              refine x_then (hK41 _ _ ?_)
              refine c_region ?_
              refine o_step rfl (s_move rfl) ?_
              refine o_step rfl (s_add rfl rfl (by omega)) ?_
              refine o_step rfl (s_assign rfl) ?_
              refine o_nil ?_
              exact x_then (x_inv (k + 1, ⟨a65, c65, q.xs ++ [(mk0 l k).b]⟩, S65) ⟨by omega, by omega, by rw [bytesM_succ (by omega) hkl, hqx], hS65, by rw [hne, show l.length - k = (l.length - (k + 1)) + 1 by omega, nameEnd, hno, if_neg (by decide)]⟩ (by first | omega | (dsimp only; omega)) sbA hzB)
            · skip
              refine o_step rfl (s_move rfl) ?_
              refine o_yes rfl rfl ?_
              refine o_step rfl (s_move rfl) ?_
              refine o_yes rfl rfl ?_
              refine o_step rfl (s_move rfl) ?_
              refine o_yes rfl rfl ?_
              refine o_step rfl (s_add rfl rfl (by omega)) ?_
              refine o_yes rfl rfl ?_
              refine o_callP (rSign_fn la lc l (k + 1) 93 93 (by decide)) rfl rfl rfl (fun w st => (RdK.old0 hw).out w st) (fun v41 hv41 => ?_)
              subst hv41
              cases k93 : sg l (k + 1) 93
              · skip
                refine o_step rfl (s_pick_t rfl rfl) ?_
                refine o_nil ?_
                refine x_then (hK43 _ _ ?_)
                refine c_false rfl ?_
                refine c_skip ?_
                refine x_then (hK42 _ _ ?_)
                refine c_region ?_
                refine o_step rfl (s_move rfl) ?_
                refine o_step rfl (s_move rfl) ?_
                refine o_step rfl (s_move rfl) ?_
                refine o_step rfl (s_idx rfl rfl hsl (by omega)) ?_
                refine o_step rfl (s_field rfl rfl (by decide)) ?_
                refine o_step rfl (s_ld rfl ((RdK.old0 hw).ld k 0 (mk0_get hkl) rfl (by decide) (by omega))) ?_
                refine o_bs (E := Eb) (xs := [(mk0 l k).b]) (vs := [_]) rfl rfl rfl rfl rfl (by decide) (by decide) fun b64 S64 hS64 => ?_
                have hno : (sg l k 58 && sg l (k + 1) 93) = false := by first | (rw [k58]; rfl) | (rw [k58, k93]; rfl)
                refine o_app hq (hS64.rdk hiA) rfl rfl rfl rfl (by simp; omega) (by simp; omega) rfl pkA fun a65 c65 S65 hS65 => ?_
                refine o_step rfl (s_assign rfl) ?_
                refine o_nil ?_
                refine x_block ?_
                refine x_then (hK41 _ _ ?_)
                refine c_region ?_
                refine o_step rfl (s_move rfl) ?_
                refine o_step rfl (s_add rfl rfl (by omega)) ?_
                refine o_step rfl (s_assign rfl) ?_
                refine o_nil ?_
                exact x_then (x_inv (k + 1, ⟨a65, c65, q.xs ++ [(mk0 l k).b]⟩, S65) ⟨by omega, by omega, by rw [bytesM_succ (by omega) hkl, hqx], hS65, by rw [hne, show l.length - k = (l.length - (k + 1)) + 1 by omega, nameEnd, hno, if_neg (by decide)]⟩ (by first | omega | (dsimp only; omega)) sbA hzB)
              · skip
                refine o_step rfl (s_pick_t rfl rfl) ?_
                refine o_nil ?_
                refine x_then (hK43 _ _ ?_)
                refine c_true rfl ?_
                refine c_seq fun _ hK44 => ?_
                refine c_region ?_
                refine o_step rfl (s_move rfl) ?_
                refine o_step rfl (s_b2str rfl (hq.rdk hiA) rfl) ?_
                refine o_callP (rNamed_fn _) rfl rfl rfl (fun _ _ => trivial) (fun v46 hv46 => ?_)
                subst hv46
                have hsome : nameEnd l (l.length - (i + 2)) (i + 2) = some k := by rw [hne, show l.length - k = (l.length - (k + 1)) + 1 by omega, nameEnd, k58, k93]; rfl
                rcases hnm : named ⟨q.xs.toArray⟩ with _ | cc
                · skip
                  rw [hqx] at hnm
                  have hN : thP l i i = .bad 31 i := by rw [thP_name h91 h58]; unfold nameP; rw [hsome]; simp only [hnm]
                  refine o_step rfl (s_move rfl) ?_
                  refine o_step rfl (s_extract rfl rfl) ?_
                  refine o_step rfl (s_extract rfl rfl) ?_
                  refine o_alloc (l := Ec 0#256) (by rw [Ec_zero]; rfl) rfl fun b7 => ?_
                  refine o_stW rfl rfl upA (Ec_len _) (Ec_len _) (Ec_one _) ?_
                  refine o_step rfl (s_assign rfl) ?_
                  refine o_nil ?_
                  refine x_then (hK44 _ _ ?_)
                  refine c_seq fun _ hK45 => ?_
                  refine c_seq fun _ hK46 => ?_
                  refine c_region ?_
                  refine o_step rfl (s_move rfl) ?_
                  refine o_step rfl (s_not rfl) ?_
                  refine o_nil ?_
                  refine x_then (hK46 _ _ ?_)
                  refine c_true rfl ?_
                  refine c_seq fun _ hK47 => ?_
                  refine c_region ?_
                  refine o_step rfl (s_move rfl) ?_
                  refine o_step rfl (step_cast (v' := .agg (Ert (badR i 31)).toArray) (s_build (cs := [_, _, _, _, _, _, _, _, _, _]) (vs := [_, _]) rfl rfl (.cons rfl rfl rfl rfl rfl (.cons rfl rfl rfl rfl rfl (.nil)))) (by first | rfl | (simp only [Ert, badR, okR, Ec_zero]; rfl))) ?_
                  refine o_stW rfl rfl upA (ert_len _) (ert_len _) (ert_one _) ?_
                  refine o_nil ?_
                  refine x_then (hK47 _ _ ?_)
                  refine c_ret ?_
                  refine x_then_ret (x_then_ret (x_block_ret (x_then_ret (x_then_ret (x_block_ret (x_then_ret (x_then_ret (?_))))))))
                  exact x_ret rfl (.agg inferInstance inferInstance rfl (RdPK.cels (.own meA)) (ert_len _) (.nil)) (by unfold thV; rw [hN]; rfl)
                · skip
                  rw [hqx] at hnm
                  have hN : thP l i i = .ok ⟨cc, 0, false, k + 2⟩ := by rw [thP_name h91 h58]; unfold nameP; rw [hsome]; simp only [hnm]
                  refine o_step rfl (s_move rfl) ?_
                  refine o_step rfl (s_extract rfl rfl) ?_
                  refine o_step rfl (s_extract rfl rfl) ?_
                  refine o_alloc (l := Ec 0#256) (by rw [Ec_zero]; rfl) rfl fun b7 => ?_
                  refine o_stW rfl rfl upA (Ec_len _) (Ec_len _) (Ec_one _) ?_
                  refine o_step rfl (s_assign rfl) ?_
                  refine o_nil ?_
                  refine x_then (hK44 _ _ ?_)
                  refine c_seq fun _ hK48 => ?_
                  refine c_seq fun _ hK49 => ?_
                  refine c_region ?_
                  refine o_step rfl (s_move rfl) ?_
                  refine o_step rfl (s_not rfl) ?_
                  refine o_nil ?_
                  refine x_then (hK49 _ _ ?_)
                  refine c_false rfl ?_
                  refine c_skip ?_
                  refine x_then (hK48 _ _ ?_)
                  refine c_seq fun _ hK50 => ?_
                  refine c_region ?_
                  refine o_step rfl (s_move rfl) ?_
                  refine o_step rfl (s_move rfl) ?_
                  refine o_step rfl (s_add rfl rfl (by omega)) ?_
                  refine o_step rfl (s_ldB rfl (RdPK.cels (.own meA)) (Ec_len _)) ?_
                  refine o_step rfl (step_cast (v' := .agg (Ert (okR i (sg l i 45) ⟨cc, 0, false, k + 2⟩)).toArray) (s_build (cs := [_, _, _, _, _, _, _, _, _, _]) (vs := [_, _, _]) rfl rfl (.cons rfl rfl rfl rfl rfl (.cons rfl rfl rfl rfl rfl (.cons rfl rfl rfl rfl rfl (.nil))))) (by rw [sg_two h91 (by decide)]; rfl)) ?_
                  refine o_stW rfl rfl upA (ert_len _) (ert_len _) (ert_one _) ?_
                  refine o_nil ?_
                  refine x_then (hK50 _ _ ?_)
                  refine c_ret ?_
                  refine x_then_ret (x_block_ret (x_then_ret (x_then_ret (x_block_ret (x_then_ret (x_then_ret (?_)))))))
                  exact x_ret rfl (.agg inferInstance inferInstance rfl (RdPK.cels (.own meA)) (ert_len _) (.nil)) (by unfold thV; rw [hN]; rfl)
          · skip
            rw [show l.length - k = 0 by omega] at hne
            have hN : thP l i i = .bad 32 i := by rw [thP_name h91 h58]; unfold nameP; rw [hne]; rfl
            refine c_exit ?_
            refine x_then_exit ?_
            refine x_then_exit ?_
            refine x_block_exit ?_
            refine x_then (hK37 _ _ ?_)
            refine c_seq fun _ hK51 => ?_
            refine c_region ?_
            refine o_step rfl (s_move rfl) ?_
            refine o_step rfl (step_cast (v' := .agg (Ert (badR i 32)).toArray) (s_build (cs := [_, _, _, _, _, _, _, _, _, _]) (vs := [_, _]) rfl rfl (.cons rfl rfl rfl rfl rfl (.cons rfl rfl rfl rfl rfl (.nil)))) (by first | rfl | (simp only [Ert, badR, okR, Ec_zero]; rfl))) ?_
            refine o_stW rfl rfl upA (ert_len _) (ert_len _) (ert_one _) ?_
            refine o_nil ?_
            refine x_then (hK51 _ _ ?_)
            refine c_ret ?_
            refine x_then_ret (?_)
            exact x_ret rfl (.agg inferInstance inferInstance rfl (RdPK.cels (.own meA)) (ert_len _) (.nil)) (by unfold thV; rw [hN]; rfl)
end Go.Proofs.YtafbigmneipkiaaDoor
