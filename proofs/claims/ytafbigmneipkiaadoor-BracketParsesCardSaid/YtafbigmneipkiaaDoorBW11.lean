/- Part of the proofs over this seat: see the text that holds the theorem. Conditions: each theorem bears its own. -/
import Derived.Test.YtafbigmneipkiaaDoorHlB
import Derived.Test.YtafbigmneipkiaaDoorBW10
import Derived.Test.YtafbigmneipkiaaDoorMB10
namespace Go.Proofs.YtafbigmneipkiaaDoor
open Go Go.HL Go.Proofs Go.Tab Go.HL.Kl Go.HL.Kl.Bk
set_option maxHeartbeats 2000000 in
theorem rItem_fn (la : Option Addr) (lc : Nat) (l : List Mk) (i d : Nat) (f : Bool) (fi : Int) (hf : f = true ↔ (i : Int) = fi) : HL.Fn Tryd.prog 32 [.slice la l.length lc, .int .i64 i, .int .i64 fi] (fun w => Rd Em w (.slice la l.length lc) l) [] (fun v _ => ∃ x, v = .agg (Ert x).toArray ∧ ItR x (itemP l d i f)) := by
  refine fn_of Tryd.func32 rfl rfl rfl fun w0 hw => ?_
  have hsl := hw.sl
  have hbl := hsl.le
  refine c_seq fun _ hK1 => ?_
  refine c_region ?_
  refine o_alloc (l := Ert zRt) (by rw [ert_zero]; rfl) rfl fun b6 => ?_
  refine o_nil ?_
  refine x_then (hK1 _ _ ?_)
  refine c_seq fun _ hK2 => ?_
  refine c_region ?_
  refine o_step rfl (s_move rfl) ?_
  refine o_step rfl (s_move rfl) ?_
  refine o_callP (rThing_fn la lc l (i)) rfl rfl rfl (fun w st => (RdK.old0 hw).out w st) (fun v11 hv11 => ?_)
  rcases thV_how l (i) with ⟨a, ha, hv⟩ | ⟨hbd, hv⟩ | ⟨hbd, hv⟩
  · skip
    rw [hv] at hv11
    have hnx := thP_next (ha 0)
    cases h45 : sg l i 45
    · skip
      subst hv11
      refine o_alloc (l := Ert zRt) (by rw [ert_zero]; rfl) rfl fun b7 => ?_
      refine o_stW rfl rfl upA (ert_len _) (ert_len _) (ert_one _) ?_
      refine o_nil ?_
      refine x_then (hK2 _ _ ?_)
      refine c_seq fun _ hK3 => ?_
      refine c_seq fun _ hK4 => ?_
      refine c_region ?_
      refine o_step rfl (s_field rfl rfl (by decide)) ?_
      refine o_step rfl (s_ld rfl (.own meA rfl)) ?_
      refine o_step rfl (s_neq_f rfl rfl rfl) ?_
      refine o_nil ?_
      refine x_then (hK4 _ _ ?_)
      refine c_false rfl ?_
      refine c_skip ?_
      refine x_then (hK3 _ _ ?_)
      refine c_seq fun _ hK5 => ?_
      refine c_seq fun _ hK6 => ?_
      refine c_region ?_
      refine o_step rfl (s_field rfl rfl (by decide)) ?_
      refine o_step rfl (step_cast (v' := .bool false) (s_ld rfl (.own meA rfl)) (congrArg Value.bool h45)) ?_
      refine o_step rfl (s_move rfl) ?_
      refine o_no rfl rfl rfl rfl ?_
      refine o_no rfl rfl rfl rfl ?_
      refine o_no rfl rfl rfl rfl ?_
      refine o_step rfl (s_pick_f rfl rfl) ?_
      refine o_step rfl (s_move rfl) ?_
      refine o_no rfl rfl rfl rfl ?_
      refine o_no rfl rfl rfl rfl ?_
      refine o_no rfl rfl rfl rfl ?_
      refine o_no rfl rfl rfl rfl ?_
      refine o_no rfl rfl rfl rfl ?_
      refine o_step rfl (s_pick_f rfl rfl) ?_
      refine o_nil ?_
      refine x_then (hK6 _ _ ?_)
      refine c_false rfl ?_
      refine c_skip ?_
      refine x_then (hK5 _ _ ?_)
      refine c_seq fun _ hK7 => ?_
      refine c_seq fun _ hK8 => ?_
      refine c_region ?_
      refine o_step rfl (s_move rfl) ?_
      refine o_step rfl (s_field rfl rfl (by decide)) ?_
      refine o_step rfl (step_cast (v' := .int .i64 (a.next : Int)) (s_ld rfl (.own meA rfl)) rfl) ?_
      have hn : ¬ (sg l i 45 = true ∧ f = false ∧ sg l (i + 1) 93 = false) := (by rintro ⟨r1, r2, r3⟩; first | exact absurd r1 (by rw [h45]; decide) | exact hff r2 | exact absurd r3 (by rw [h93]; decide))
      refine o_callP (rSign_fn la lc l (a.next) 45 45 (by decide)) rfl rfl rfl (fun w st => (RdK.old0 hw).out w st) (fun v42 hv42 => ?_)
      subst hv42
      cases q45 : sg l (a.next) 45
      · skip
        refine o_step rfl (s_not rfl) ?_
        refine o_step rfl (s_move rfl) ?_
        refine o_no rfl rfl rfl rfl ?_
        refine o_no rfl rfl rfl rfl ?_
        refine o_no rfl rfl rfl rfl ?_
        refine o_no rfl rfl rfl rfl ?_
        refine o_no rfl rfl rfl rfl ?_
        refine o_no rfl rfl rfl rfl ?_
        refine o_step rfl (s_pick_t rfl rfl) ?_
        refine o_step rfl (s_move rfl) ?_
        refine o_no rfl rfl rfl rfl ?_
        refine o_no rfl rfl rfl rfl ?_
        refine o_no rfl rfl rfl rfl ?_
        refine o_no rfl rfl rfl rfl ?_
        refine o_no rfl rfl rfl rfl ?_
        refine o_step rfl (s_pick_t rfl rfl) ?_
        refine o_nil ?_
        refine x_then (hK8 _ _ ?_)
        refine c_true rfl ?_
        refine c_seq fun _ hK9 => ?_
        refine c_region ?_
        refine o_step rfl (s_ldB rfl (RdPK.cels (.own meA)) (ert_len _)) ?_
        refine o_stW rfl rfl upA (ert_len _) (ert_len _) (ert_one _) ?_
        refine o_nil ?_
        refine x_then (hK9 _ _ ?_)
        refine c_ret ?_
        refine x_then_ret (?_)
        exact x_ret rfl (.agg inferInstance inferInstance rfl (RdPK.cels (.own meA)) (ert_len _) (.nil)) (by exact ⟨_, rfl, (by rw [it_one (ha d) hn (by first | exact .inl q45 | exact .inr (.inl (by omega)) | exact .inr (.inr q93))]; exact ⟨rfl, rfl, rfl⟩)⟩)
      · skip
        refine o_step rfl (s_not rfl) ?_
        refine o_step rfl (s_move rfl) ?_
        refine o_yes rfl rfl ?_
        refine o_step rfl (s_field rfl rfl (by decide)) ?_
        refine o_yes rfl rfl ?_
        refine o_step rfl (step_cast (v' := .int .i64 (a.next : Int)) (s_ld rfl (.own meA rfl)) rfl) ?_
        refine o_yes rfl rfl ?_
        refine o_step rfl (s_add rfl rfl (by omega)) ?_
        refine o_yes rfl rfl ?_
        refine o_step rfl (s_move rfl) ?_
        refine o_yes rfl rfl ?_
        refine o_step rfl (s_len rfl) ?_
        refine o_yes rfl rfl ?_
        by_cases hl2 : l.length ≤ a.next + 1
        · skip
          refine o_step rfl (step_cast (v' := .bool true) (s_geq rfl rfl) (by rw [decide_eq_true (by omega)])) ?_
          refine o_step rfl (s_pick_f rfl rfl) ?_
          refine o_step rfl (s_move rfl) ?_
          refine o_no rfl rfl rfl rfl ?_
          refine o_no rfl rfl rfl rfl ?_
          refine o_no rfl rfl rfl rfl ?_
          refine o_no rfl rfl rfl rfl ?_
          refine o_no rfl rfl rfl rfl ?_
          refine o_step rfl (s_pick_t rfl rfl) ?_
          refine o_nil ?_
          refine x_then (hK8 _ _ ?_)
          refine c_true rfl ?_
          refine c_seq fun _ hK10 => ?_
          refine c_region ?_
          refine o_step rfl (s_ldB rfl (RdPK.cels (.own meA)) (ert_len _)) ?_
          refine o_stW rfl rfl upA (ert_len _) (ert_len _) (ert_one _) ?_
          refine o_nil ?_
          refine x_then (hK10 _ _ ?_)
          refine c_ret ?_
          refine x_then_ret (?_)
          exact x_ret rfl (.agg inferInstance inferInstance rfl (RdPK.cels (.own meA)) (ert_len _) (.nil)) (by exact ⟨_, rfl, (by rw [it_one (ha d) hn (by first | exact .inl q45 | exact .inr (.inl (by omega)) | exact .inr (.inr q93))]; exact ⟨rfl, rfl, rfl⟩)⟩)
        · skip
          refine o_step rfl (step_cast (v' := .bool false) (s_geq rfl rfl) (by rw [decide_eq_false (by omega)])) ?_
          refine o_step rfl (s_pick_f rfl rfl) ?_
          refine o_step rfl (s_move rfl) ?_
          refine o_yes rfl rfl ?_
          refine o_step rfl (s_move rfl) ?_
          refine o_yes rfl rfl ?_
          refine o_step rfl (s_field rfl rfl (by decide)) ?_
          refine o_yes rfl rfl ?_
          refine o_step rfl (step_cast (v' := .int .i64 (a.next : Int)) (s_ld rfl (.own meA rfl)) rfl) ?_
          refine o_yes rfl rfl ?_
          refine o_step rfl (s_add rfl rfl (by omega)) ?_
          refine o_yes rfl rfl ?_
          refine o_callP (rSign_fn la lc l (a.next + 1) 93 93 (by decide)) rfl rfl rfl (fun w st => (RdK.old0 hw).out w st) (fun v57 hv57 => ?_)
          subst hv57
          cases q93 : sg l (a.next + 1) 93
          · skip
            refine o_step rfl (s_pick_f rfl rfl) ?_
            refine o_nil ?_
            refine x_then (hK8 _ _ ?_)
            refine c_false rfl ?_
            refine c_skip ?_
            refine x_then (hK7 _ _ ?_)
            refine c_seq fun _ hK11 => ?_
            refine c_seq fun _ hK12 => ?_
            refine c_region ?_
            have hs : ¬ (sg l a.next 45 = false ∨ l.length ≤ a.next + 1 ∨ sg l (a.next + 1) 93 = true) := by rintro (r | r | r); (rw [q45] at r; cases r); omega; (rw [q93] at r; cases r)
            refine o_step rfl (s_field rfl rfl (by decide)) ?_
            by_cases hae : a.e = true
            · skip
              refine o_step rfl (step_cast (v' := .bool true) (s_ld rfl (.own meA rfl)) (congrArg Value.bool hae)) ?_
              refine o_step rfl (s_not rfl) ?_
              refine o_nil ?_
              refine x_then (hK12 _ _ ?_)
              refine c_false rfl ?_
              refine c_skip ?_
              refine x_then (hK11 _ _ ?_)
              refine c_seq fun _ hK13 => ?_
              refine c_region ?_
              refine o_step rfl (s_move rfl) ?_
              refine o_step rfl (s_field rfl rfl (by decide)) ?_
              refine o_step rfl (step_cast (v' := .int .i64 (a.next : Int)) (s_ld rfl (.own meA rfl)) rfl) ?_
              refine o_step rfl (s_add rfl rfl (by omega)) ?_
              refine o_callP (rThing_fn la lc l (a.next + 1)) rfl rfl rfl (fun w st => (RdK.old0 hw).out w st) (fun v69 hv69 => ?_)
              rcases thV_how l (a.next + 1) with ⟨b, hb, hv⟩ | ⟨hbd, hv⟩ | ⟨hbd, hv⟩
              · skip
                rw [hv] at hv69
                subst hv69
                refine o_alloc (l := Ert zRt) (by rw [ert_zero]; rfl) rfl fun b8 => ?_
                refine o_stW rfl rfl upA (ert_len _) (ert_len _) (ert_one _) ?_
                refine o_nil ?_
                refine x_then (hK13 _ _ ?_)
                refine c_seq fun _ hK14 => ?_
                refine c_seq fun _ hK15 => ?_
                refine c_region ?_
                refine o_step rfl (s_field rfl rfl (by decide)) ?_
                refine o_step rfl (s_ld rfl (.own meA rfl)) ?_
                refine o_step rfl (s_neq_f rfl rfl rfl) ?_
                refine o_nil ?_
                refine x_then (hK15 _ _ ?_)
                refine c_false rfl ?_
                refine c_skip ?_
                refine x_then (hK14 _ _ ?_)
                refine c_seq fun _ hK16 => ?_
                refine c_seq fun _ hK17 => ?_
                refine c_region ?_
                refine o_step rfl (s_field rfl rfl (by decide)) ?_
                by_cases hbe : b.e = true
                · skip
                  refine o_step rfl (step_cast (v' := .bool true) (s_ld rfl (.own meA rfl)) (congrArg Value.bool hbe)) ?_
                  refine o_step rfl (s_not rfl) ?_
                  refine o_step rfl (s_move rfl) ?_
                  refine o_yes rfl rfl ?_
                  refine o_step rfl (s_field rfl rfl (by decide)) ?_
                  refine o_yes rfl rfl ?_
                  refine o_step rfl (s_ld rfl (.own meA rfl)) ?_
                  refine o_yes rfl rfl ?_
                  refine o_step rfl (s_field rfl rfl (by decide)) ?_
                  refine o_yes rfl rfl ?_
                  refine o_step rfl (s_ld rfl (.own meA rfl)) ?_
                  refine o_yes rfl rfl ?_
                  by_cases hgt : b.b.toNat < a.b.toNat
                  · skip
                    refine o_step rfl (step_cast (v' := .bool true) (s_gtr rfl rfl) (congrArg Value.bool (decide_eq_true (by show (a.b.toNat : Int) > b.b.toNat; omega)))) ?_
                    refine o_step rfl (s_pick_f rfl rfl) ?_
                    refine o_nil ?_
                    refine x_then (hK17 _ _ ?_)
                    refine c_true rfl ?_
                    refine c_seq fun _ hK18 => ?_
                    refine c_region ?_
                    refine o_step rfl (s_move rfl) ?_
                    refine o_step rfl (step_cast (v' := .agg (Ert (badR i 30)).toArray) (s_build (cs := [_, _, _, _, _, _, _, _, _, _]) (vs := [_, _]) rfl rfl (.cons rfl rfl rfl rfl rfl (.cons rfl rfl rfl rfl rfl (.nil)))) (by first | rfl | (simp only [Ert, badR, okR, Ec_zero]; rfl))) ?_
                    refine o_stW rfl rfl upA (ert_len _) (ert_len _) (ert_one _) ?_
                    refine o_nil ?_
                    refine x_then (hK18 _ _ ?_)
                    refine c_ret ?_
                    refine x_then_ret (?_)
                    exact x_ret rfl (.agg inferInstance inferInstance rfl (RdPK.cels (.own meA)) (ert_len _) (.nil)) (by exact ⟨_, rfl, (by rw [it_turn (ha d) hn hs hae (hb d) (by first | exact .inl hbe2 | exact .inr hgt)]; exact ⟨rfl, .inr rfl, by decide⟩)⟩)
                  · skip
                    refine o_step rfl (step_cast (v' := .bool false) (s_gtr rfl rfl) (congrArg Value.bool (decide_eq_false (by show ¬ (a.b.toNat : Int) > b.b.toNat; omega)))) ?_
                    refine o_step rfl (s_pick_f rfl rfl) ?_
                    refine o_nil ?_
                    refine x_then (hK17 _ _ ?_)
                    refine c_false rfl ?_
                    refine c_skip ?_
                    refine x_then (hK16 _ _ ?_)
                    refine c_seq fun _ hK19 => ?_
                    refine c_drawE ([(b8, .cells (Ert (okR (a.next + 1 : Nat) (sg l (a.next + 1) 45) b)).toArray 92 (0, 0)), (b7, .cells (Ert (okR i (sg l i 45) a)).toArray 92 (0, 0))]) (fun i => false) ?_
                    refine e_take 0 rfl (by kernel_rfl) (by kernel_rfl) (by kernel_rfl) (by kernel_rfl) (fun _ _ => rfl) rfl (by repeat (first | exact HSub.refl _ | exact HSub.nil | refine HSub.takeC pkB ?_)) (s_move rfl) ?_
                    refine e_take 1 rfl (by kernel_rfl) (by kernel_rfl) (by kernel_rfl) (by kernel_rfl) (fun _ _ => rfl) rfl (by repeat (first | exact HSub.refl _ | exact HSub.nil | refine HSub.takeC pkB ?_)) (s_field rfl rfl (by decide)) ?_
                    refine e_take 2 rfl (by kernel_rfl) (by kernel_rfl) (by kernel_rfl) (by kernel_rfl) (fun _ _ => rfl) rfl (by repeat (first | exact HSub.refl _ | exact HSub.nil | refine HSub.takeC pkB ?_)) (s_ld rfl (.own meA rfl)) ?_
                    refine e_take 3 rfl (by kernel_rfl) (by kernel_rfl) (by kernel_rfl) (by kernel_rfl) (fun _ _ => rfl) rfl (by repeat (first | exact HSub.refl _ | exact HSub.nil | refine HSub.takeC pkB ?_)) (s_field rfl rfl (by decide)) ?_
                    refine e_take 4 rfl (by kernel_rfl) (by kernel_rfl) (by kernel_rfl) (by kernel_rfl) (fun _ _ => rfl) rfl (by repeat (first | exact HSub.refl _ | exact HSub.nil | refine HSub.takeC pkB ?_)) (s_ld rfl (.own meA rfl)) ?_
                    refine e_take 5 rfl (by kernel_rfl) (by kernel_rfl) (by kernel_rfl) (by kernel_rfl) (fun _ _ => rfl) rfl (by repeat (first | exact HSub.refl _ | exact HSub.nil | refine HSub.takeC pkB ?_)) (s_field rfl rfl (by decide)) ?_
                    refine e_take 6 rfl (by kernel_rfl) (by kernel_rfl) (by kernel_rfl) (by kernel_rfl) (fun _ _ => rfl) rfl (by repeat (first | exact HSub.refl _ | exact HSub.nil | refine HSub.takeC pkB ?_)) (s_ld rfl (.own meA rfl)) ?_
                    refine e_one 7 rfl (by kernel_rfl) ?_
                    refine o_callP (rRange_fn a.b.toNat b.b.toNat (UInt8.toNat_lt _) (UInt8.toNat_lt _)) rfl rfl rfl (fun _ _ => trivial) (fun v93 hv93 => ?_)
                    subst hv93
                    refine o_nil ?_
                    refine x_oneS (by repeat (first | exact HSub.refl _ | exact HSub.nil | refine HSub.takeC pkB ?_)) ?_
                    refine e_one 8 rfl (by kernel_rfl) ?_
                    refine o_step rfl (step_cast (v' := .agg (Ert (⟨i, b.next, false, false, 0, rng a.b.toNat b.b.toNat, 0⟩)).toArray) (s_build (cs := [_, _, _, _, _, _, _, _, _, _]) (vs := [_, _, _]) rfl rfl (.cons rfl rfl rfl rfl rfl (.cons rfl rfl rfl rfl rfl (.cons rfl rfl rfl rfl rfl (.nil))))) (by first | rfl | (simp only [Ert, badR, okR, Ec_zero]; rfl))) ?_
                    refine o_nil ?_
                    refine x_oneS (by repeat (first | exact HSub.refl _ | exact HSub.nil | refine HSub.takeC pkB ?_)) ?_
                    refine e_one 9 rfl (by kernel_rfl) ?_
                    refine o_stW rfl rfl upA (ert_len _) (ert_len _) (ert_one _) ?_
                    refine o_nil ?_
                    refine x_oneS (by repeat (first | exact HSub.refl _ | exact HSub.nil | refine HSub.takeC pkB ?_)) ?_
                    refine e_done (by kernel_rfl) ?_
                    refine x_then (hK19 _ _ ?_)
                    refine c_ret ?_
                    refine ?_
                    exact x_ret rfl (.agg inferInstance inferInstance rfl (RdPK.cels (.own meA)) (ert_len _) (.nil)) (by exact ⟨_, rfl, (by rw [it_rng (ha d) hn hs hae (hb d) (by rintro (r | r); (rw [hbe] at r; cases r); exact hgt r)]; exact ⟨rfl, rfl, rfl⟩)⟩)
                · skip
                  have hbe2 : b.e = false := by simpa using hbe
                  refine o_step rfl (step_cast (v' := .bool false) (s_ld rfl (.own meA rfl)) (congrArg Value.bool hbe2)) ?_
                  refine o_step rfl (s_not rfl) ?_
                  refine o_step rfl (s_move rfl) ?_
                  refine o_no rfl rfl rfl rfl ?_
                  refine o_no rfl rfl rfl rfl ?_
                  refine o_no rfl rfl rfl rfl ?_
                  refine o_no rfl rfl rfl rfl ?_
                  refine o_no rfl rfl rfl rfl ?_
                  refine o_step rfl (s_pick_t rfl rfl) ?_
                  refine o_nil ?_
                  refine x_then (hK17 _ _ ?_)
                  refine c_true rfl ?_
                  refine c_seq fun _ hK20 => ?_
                  refine c_region ?_
                  refine o_step rfl (s_move rfl) ?_
                  refine o_step rfl (step_cast (v' := .agg (Ert (badR i 30)).toArray) (s_build (cs := [_, _, _, _, _, _, _, _, _, _]) (vs := [_, _]) rfl rfl (.cons rfl rfl rfl rfl rfl (.cons rfl rfl rfl rfl rfl (.nil)))) (by first | rfl | (simp only [Ert, badR, okR, Ec_zero]; rfl))) ?_
                  refine o_stW rfl rfl upA (ert_len _) (ert_len _) (ert_one _) ?_
                  refine o_nil ?_
                  refine x_then (hK20 _ _ ?_)
                  refine c_ret ?_
                  refine x_then_ret (?_)
                  exact x_ret rfl (.agg inferInstance inferInstance rfl (RdPK.cels (.own meA)) (ert_len _) (.nil)) (by exact ⟨_, rfl, (by rw [it_turn (ha d) hn hs hae (hb d) (by first | exact .inl hbe2 | exact .inr hgt)]; exact ⟨rfl, .inr rfl, by decide⟩)⟩)
              · skip
                rw [hv] at hv69
                subst hv69
                refine o_alloc (l := Ert zRt) (by rw [ert_zero]; rfl) rfl fun b8 => ?_
                refine o_stW rfl rfl upA (ert_len _) (ert_len _) (ert_one _) ?_
                refine o_nil ?_
                refine x_then (hK13 _ _ ?_)
                refine c_seq fun _ hK21 => ?_
                refine c_seq fun _ hK22 => ?_
                refine c_region ?_
                refine o_step rfl (s_field rfl rfl (by decide)) ?_
                refine o_step rfl (s_ld rfl (.own meA rfl)) ?_
                refine o_step rfl (s_neq_t rfl rfl (by simp [badR])) ?_
                refine o_nil ?_
                refine x_then (hK22 _ _ ?_)
                refine c_true rfl ?_
                refine c_seq fun _ hK23 => ?_
                refine c_region ?_
                refine o_step rfl (s_ldB rfl (RdPK.cels (.own meA)) (ert_len _)) ?_
                refine o_stW rfl rfl upA (ert_len _) (ert_len _) (ert_one _) ?_
                refine o_nil ?_
                refine x_then (hK23 _ _ ?_)
                refine c_ret ?_
                refine x_then_ret (?_)
                exact x_ret rfl (.agg inferInstance inferInstance rfl (RdPK.cels (.own meA)) (ert_len _) (.nil)) (by exact ⟨_, rfl, (by rw [it_second (ha d) hn hs hae (hbd d)]; exact ⟨rfl, .inl rfl, by decide⟩)⟩)
              · skip
                rw [hv] at hv69
                subst hv69
                refine o_alloc (l := Ert zRt) (by rw [ert_zero]; rfl) rfl fun b8 => ?_
                refine o_stW rfl rfl upA (ert_len _) (ert_len _) (ert_one _) ?_
                refine o_nil ?_
                refine x_then (hK13 _ _ ?_)
                refine c_seq fun _ hK24 => ?_
                refine c_seq fun _ hK25 => ?_
                refine c_region ?_
                refine o_step rfl (s_field rfl rfl (by decide)) ?_
                refine o_step rfl (s_ld rfl (.own meA rfl)) ?_
                refine o_step rfl (s_neq_t rfl rfl (by simp [badR])) ?_
                refine o_nil ?_
                refine x_then (hK25 _ _ ?_)
                refine c_true rfl ?_
                refine c_seq fun _ hK26 => ?_
                refine c_region ?_
                refine o_step rfl (s_ldB rfl (RdPK.cels (.own meA)) (ert_len _)) ?_
                refine o_stW rfl rfl upA (ert_len _) (ert_len _) (ert_one _) ?_
                refine o_nil ?_
                refine x_then (hK26 _ _ ?_)
                refine c_ret ?_
                refine x_then_ret (?_)
                exact x_ret rfl (.agg inferInstance inferInstance rfl (RdPK.cels (.own meA)) (ert_len _) (.nil)) (by exact ⟨_, rfl, (by rw [it_second (ha d) hn hs hae (hbd d)]; exact ⟨rfl, .inr rfl, by decide⟩)⟩)
            · skip
              have hae2 : a.e = false := by simpa using hae
              refine o_step rfl (step_cast (v' := .bool false) (s_ld rfl (.own meA rfl)) (congrArg Value.bool hae2)) ?_
              refine o_step rfl (s_not rfl) ?_
              refine o_nil ?_
              refine x_then (hK12 _ _ ?_)
              refine c_true rfl ?_
              refine c_seq fun _ hK27 => ?_
              refine c_region ?_
              refine o_step rfl (s_move rfl) ?_
              refine o_step rfl (step_cast (v' := .agg (Ert (badR i 30)).toArray) (s_build (cs := [_, _, _, _, _, _, _, _, _, _]) (vs := [_, _]) rfl rfl (.cons rfl rfl rfl rfl rfl (.cons rfl rfl rfl rfl rfl (.nil)))) (by first | rfl | (simp only [Ert, badR, okR, Ec_zero]; rfl))) ?_
              refine o_stW rfl rfl upA (ert_len _) (ert_len _) (ert_one _) ?_
              refine o_nil ?_
              refine x_then (hK27 _ _ ?_)
              refine c_ret ?_
              refine x_then_ret (?_)
              exact x_ret rfl (.agg inferInstance inferInstance rfl (RdPK.cels (.own meA)) (ert_len _) (.nil)) (by exact ⟨_, rfl, (by rw [it_noend (ha d) hn hs hae2]; exact ⟨rfl, .inr rfl, by decide⟩)⟩)
          · skip
            refine o_step rfl (s_pick_f rfl rfl) ?_
            refine o_nil ?_
            refine x_then (hK8 _ _ ?_)
            refine c_true rfl ?_
            refine c_seq fun _ hK28 => ?_
            refine c_region ?_
            refine o_step rfl (s_ldB rfl (RdPK.cels (.own meA)) (ert_len _)) ?_
            refine o_stW rfl rfl upA (ert_len _) (ert_len _) (ert_one _) ?_
            refine o_nil ?_
            refine x_then (hK28 _ _ ?_)
            refine c_ret ?_
            refine x_then_ret (?_)
            exact x_ret rfl (.agg inferInstance inferInstance rfl (RdPK.cels (.own meA)) (ert_len _) (.nil)) (by exact ⟨_, rfl, (by rw [it_one (ha d) hn (by first | exact .inl q45 | exact .inr (.inl (by omega)) | exact .inr (.inr q93))]; exact ⟨rfl, rfl, rfl⟩)⟩)
    · skip
      subst hv11
      refine o_alloc (l := Ert zRt) (by rw [ert_zero]; rfl) rfl fun b7 => ?_
      refine o_stW rfl rfl upA (ert_len _) (ert_len _) (ert_one _) ?_
      refine o_nil ?_
      refine x_then (hK2 _ _ ?_)
      refine c_seq fun _ hK29 => ?_
      refine c_seq fun _ hK30 => ?_
      refine c_region ?_
      refine o_step rfl (s_field rfl rfl (by decide)) ?_
      refine o_step rfl (s_ld rfl (.own meA rfl)) ?_
      refine o_step rfl (s_neq_f rfl rfl rfl) ?_
      refine o_nil ?_
      refine x_then (hK30 _ _ ?_)
      refine c_false rfl ?_
      refine c_skip ?_
      refine x_then (hK29 _ _ ?_)
      refine c_seq fun _ hK31 => ?_
      refine c_seq fun _ hK32 => ?_
      refine c_region ?_
      refine o_step rfl (s_field rfl rfl (by decide)) ?_
      refine o_step rfl (step_cast (v' := .bool true) (s_ld rfl (.own meA rfl)) (congrArg Value.bool h45)) ?_
      refine o_step rfl (s_move rfl) ?_
      refine o_yes rfl rfl ?_
      refine o_step rfl (s_move rfl) ?_
      refine o_yes rfl rfl ?_
      refine o_step rfl (s_move rfl) ?_
      refine o_yes rfl rfl ?_
      by_cases hff : f = false
      · skip
        refine o_step rfl (s_neq_t rfl rfl (fun e => by rw [hf.2 e] at hff; cases hff)) ?_
        refine o_step rfl (s_pick_t rfl rfl) ?_
        refine o_step rfl (s_move rfl) ?_
        refine o_yes rfl rfl ?_
        refine o_step rfl (s_move rfl) ?_
        refine o_yes rfl rfl ?_
        refine o_step rfl (s_move rfl) ?_
        refine o_yes rfl rfl ?_
        refine o_step rfl (s_add rfl rfl (by omega)) ?_
        refine o_yes rfl rfl ?_
        refine o_callP (rSign_fn la lc l (i + 1) 93 93 (by decide)) rfl rfl rfl (fun w st => (RdK.old0 hw).out w st) (fun v27 hv27 => ?_)
        subst hv27
        cases h93 : sg l (i + 1) 93
        · skip
          refine o_yes rfl rfl ?_
          refine o_step rfl (s_not rfl) ?_
          refine o_step rfl (s_pick_t rfl rfl) ?_
          refine o_nil ?_
          refine x_then (hK32 _ _ ?_)
          refine c_true rfl ?_
          refine c_seq fun _ hK33 => ?_
          refine c_seq fun _ hK34 => ?_
          refine c_region ?_
          refine o_step rfl (s_move rfl) ?_
          refine o_step rfl (s_add rfl rfl (by omega)) ?_
          refine o_step rfl (s_move rfl) ?_
          refine o_step rfl (s_len rfl) ?_
          by_cases hl1 : l.length ≤ i + 1
          · skip
            refine o_step rfl (step_cast (v' := .bool true) (s_geq rfl rfl) (by rw [decide_eq_true (by omega)])) ?_
            refine o_nil ?_
            refine x_then (hK34 _ _ ?_)
            refine c_true rfl ?_
            refine c_seq fun _ hK35 => ?_
            refine c_region ?_
            refine o_step rfl (s_move rfl) ?_
            refine o_step rfl (step_cast (v' := .agg (Ert (badR i 32)).toArray) (s_build (cs := [_, _, _, _, _, _, _, _, _, _]) (vs := [_, _]) rfl rfl (.cons rfl rfl rfl rfl rfl (.cons rfl rfl rfl rfl rfl (.nil)))) (by first | rfl | (simp only [Ert, badR, okR, Ec_zero]; rfl))) ?_
            refine o_stW rfl rfl upA (ert_len _) (ert_len _) (ert_one _) ?_
            refine o_nil ?_
            refine x_then (hK35 _ _ ?_)
            refine c_ret ?_
            refine x_then_ret (x_then_ret (?_))
            exact x_ret rfl (.agg inferInstance inferInstance rfl (RdPK.cels (.own meA)) (ert_len _) (.nil)) (by exact ⟨_, rfl, (by rw [it_dash1 (ha d) ⟨h45, hff, h93⟩ hl1]; exact ⟨rfl, .inl rfl, by decide⟩)⟩)
          · skip
            refine o_step rfl (step_cast (v' := .bool false) (s_geq rfl rfl) (by rw [decide_eq_false (by omega)])) ?_
            refine o_nil ?_
            refine x_then (hK34 _ _ ?_)
            refine c_false rfl ?_
            refine c_skip ?_
            refine x_then (hK33 _ _ ?_)
            refine c_seq fun _ hK36 => ?_
            refine c_region ?_
            refine o_step rfl (s_move rfl) ?_
            refine o_step rfl (step_cast (v' := .agg (Ert (badR i 30)).toArray) (s_build (cs := [_, _, _, _, _, _, _, _, _, _]) (vs := [_, _]) rfl rfl (.cons rfl rfl rfl rfl rfl (.cons rfl rfl rfl rfl rfl (.nil)))) (by first | rfl | (simp only [Ert, badR, okR, Ec_zero]; rfl))) ?_
            refine o_stW rfl rfl upA (ert_len _) (ert_len _) (ert_one _) ?_
            refine o_nil ?_
            refine x_then (hK36 _ _ ?_)
            refine c_ret ?_
            refine x_then_ret (?_)
            exact x_ret rfl (.agg inferInstance inferInstance rfl (RdPK.cels (.own meA)) (ert_len _) (.nil)) (by exact ⟨_, rfl, (by rw [it_dash2 (ha d) ⟨h45, hff, h93⟩ hl1]; exact ⟨rfl, .inr rfl, by decide⟩)⟩)
        · skip
          refine o_yes rfl rfl ?_
          refine o_step rfl (s_not rfl) ?_
          refine o_step rfl (s_pick_t rfl rfl) ?_
          refine o_nil ?_
          refine x_then (hK32 _ _ ?_)
          refine c_false rfl ?_
          refine c_skip ?_
          refine x_then (hK31 _ _ ?_)
          refine c_seq fun _ hK37 => ?_
          refine c_seq fun _ hK38 => ?_
          refine c_region ?_
          refine o_step rfl (s_move rfl) ?_
          refine o_step rfl (s_field rfl rfl (by decide)) ?_
          refine o_step rfl (step_cast (v' := .int .i64 (a.next : Int)) (s_ld rfl (.own meA rfl)) rfl) ?_
          have hn : ¬ (sg l i 45 = true ∧ f = false ∧ sg l (i + 1) 93 = false) := (by rintro ⟨r1, r2, r3⟩; first | exact absurd r1 (by rw [h45]; decide) | exact hff r2 | exact absurd r3 (by rw [h93]; decide))
          refine o_callP (rSign_fn la lc l (a.next) 45 45 (by decide)) rfl rfl rfl (fun w st => (RdK.old0 hw).out w st) (fun v42 hv42 => ?_)
          subst hv42
          cases q45 : sg l (a.next) 45
          · skip
            refine o_step rfl (s_not rfl) ?_
            refine o_step rfl (s_move rfl) ?_
            refine o_no rfl rfl rfl rfl ?_
            refine o_no rfl rfl rfl rfl ?_
            refine o_no rfl rfl rfl rfl ?_
            refine o_no rfl rfl rfl rfl ?_
            refine o_no rfl rfl rfl rfl ?_
            refine o_no rfl rfl rfl rfl ?_
            refine o_step rfl (s_pick_t rfl rfl) ?_
            refine o_step rfl (s_move rfl) ?_
            refine o_no rfl rfl rfl rfl ?_
            refine o_no rfl rfl rfl rfl ?_
            refine o_no rfl rfl rfl rfl ?_
            refine o_no rfl rfl rfl rfl ?_
            refine o_no rfl rfl rfl rfl ?_
            refine o_step rfl (s_pick_t rfl rfl) ?_
            refine o_nil ?_
            refine x_then (hK38 _ _ ?_)
            refine c_true rfl ?_
            refine c_seq fun _ hK39 => ?_
            refine c_region ?_
            refine o_step rfl (s_ldB rfl (RdPK.cels (.own meA)) (ert_len _)) ?_
            refine o_stW rfl rfl upA (ert_len _) (ert_len _) (ert_one _) ?_
            refine o_nil ?_
            refine x_then (hK39 _ _ ?_)
            refine c_ret ?_
            refine x_then_ret (?_)
            exact x_ret rfl (.agg inferInstance inferInstance rfl (RdPK.cels (.own meA)) (ert_len _) (.nil)) (by exact ⟨_, rfl, (by rw [it_one (ha d) hn (by first | exact .inl q45 | exact .inr (.inl (by omega)) | exact .inr (.inr q93))]; exact ⟨rfl, rfl, rfl⟩)⟩)
          · skip
            refine o_step rfl (s_not rfl) ?_
            refine o_step rfl (s_move rfl) ?_
            refine o_yes rfl rfl ?_
            refine o_step rfl (s_field rfl rfl (by decide)) ?_
            refine o_yes rfl rfl ?_
            refine o_step rfl (step_cast (v' := .int .i64 (a.next : Int)) (s_ld rfl (.own meA rfl)) rfl) ?_
            refine o_yes rfl rfl ?_
            refine o_step rfl (s_add rfl rfl (by omega)) ?_
            refine o_yes rfl rfl ?_
            refine o_step rfl (s_move rfl) ?_
            refine o_yes rfl rfl ?_
            refine o_step rfl (s_len rfl) ?_
            refine o_yes rfl rfl ?_
            by_cases hl2 : l.length ≤ a.next + 1
            · skip
              refine o_step rfl (step_cast (v' := .bool true) (s_geq rfl rfl) (by rw [decide_eq_true (by omega)])) ?_
              refine o_step rfl (s_pick_f rfl rfl) ?_
              refine o_step rfl (s_move rfl) ?_
              refine o_no rfl rfl rfl rfl ?_
              refine o_no rfl rfl rfl rfl ?_
              refine o_no rfl rfl rfl rfl ?_
              refine o_no rfl rfl rfl rfl ?_
              refine o_no rfl rfl rfl rfl ?_
              refine o_step rfl (s_pick_t rfl rfl) ?_
              refine o_nil ?_
              refine x_then (hK38 _ _ ?_)
              refine c_true rfl ?_
              refine c_seq fun _ hK40 => ?_
              refine c_region ?_
              refine o_step rfl (s_ldB rfl (RdPK.cels (.own meA)) (ert_len _)) ?_
              refine o_stW rfl rfl upA (ert_len _) (ert_len _) (ert_one _) ?_
              refine o_nil ?_
              refine x_then (hK40 _ _ ?_)
              refine c_ret ?_
              refine x_then_ret (?_)
              exact x_ret rfl (.agg inferInstance inferInstance rfl (RdPK.cels (.own meA)) (ert_len _) (.nil)) (by exact ⟨_, rfl, (by rw [it_one (ha d) hn (by first | exact .inl q45 | exact .inr (.inl (by omega)) | exact .inr (.inr q93))]; exact ⟨rfl, rfl, rfl⟩)⟩)
            · skip
              refine o_step rfl (step_cast (v' := .bool false) (s_geq rfl rfl) (by rw [decide_eq_false (by omega)])) ?_
              refine o_step rfl (s_pick_f rfl rfl) ?_
              refine o_step rfl (s_move rfl) ?_
              refine o_yes rfl rfl ?_
              refine o_step rfl (s_move rfl) ?_
              refine o_yes rfl rfl ?_
              refine o_step rfl (s_field rfl rfl (by decide)) ?_
              refine o_yes rfl rfl ?_
              refine o_step rfl (step_cast (v' := .int .i64 (a.next : Int)) (s_ld rfl (.own meA rfl)) rfl) ?_
              refine o_yes rfl rfl ?_
              refine o_step rfl (s_add rfl rfl (by omega)) ?_
              refine o_yes rfl rfl ?_
              refine o_callP (rSign_fn la lc l (a.next + 1) 93 93 (by decide)) rfl rfl rfl (fun w st => (RdK.old0 hw).out w st) (fun v57 hv57 => ?_)
              subst hv57
              cases q93 : sg l (a.next + 1) 93
              · skip
                refine o_step rfl (s_pick_f rfl rfl) ?_
                refine o_nil ?_
                refine x_then (hK38 _ _ ?_)
                refine c_false rfl ?_
                refine c_skip ?_
                refine x_then (hK37 _ _ ?_)
                refine c_seq fun _ hK41 => ?_
                refine c_seq fun _ hK42 => ?_
                refine c_region ?_
                have hs : ¬ (sg l a.next 45 = false ∨ l.length ≤ a.next + 1 ∨ sg l (a.next + 1) 93 = true) := by rintro (r | r | r); (rw [q45] at r; cases r); omega; (rw [q93] at r; cases r)
                refine o_step rfl (s_field rfl rfl (by decide)) ?_
                by_cases hae : a.e = true
                · skip
                  refine o_step rfl (step_cast (v' := .bool true) (s_ld rfl (.own meA rfl)) (congrArg Value.bool hae)) ?_
                  refine o_step rfl (s_not rfl) ?_
                  refine o_nil ?_
                  refine x_then (hK42 _ _ ?_)
                  refine c_false rfl ?_
                  refine c_skip ?_
                  refine x_then (hK41 _ _ ?_)
                  refine c_seq fun _ hK43 => ?_
                  refine c_region ?_
                  refine o_step rfl (s_move rfl) ?_
                  refine o_step rfl (s_field rfl rfl (by decide)) ?_
                  refine o_step rfl (step_cast (v' := .int .i64 (a.next : Int)) (s_ld rfl (.own meA rfl)) rfl) ?_
                  refine o_step rfl (s_add rfl rfl (by omega)) ?_
                  refine o_callP (rThing_fn la lc l (a.next + 1)) rfl rfl rfl (fun w st => (RdK.old0 hw).out w st) (fun v69 hv69 => ?_)
                  rcases thV_how l (a.next + 1) with ⟨b, hb, hv⟩ | ⟨hbd, hv⟩ | ⟨hbd, hv⟩
                  · skip
                    rw [hv] at hv69
                    subst hv69
                    refine o_alloc (l := Ert zRt) (by rw [ert_zero]; rfl) rfl fun b8 => ?_
                    refine o_stW rfl rfl upA (ert_len _) (ert_len _) (ert_one _) ?_
                    refine o_nil ?_
                    refine x_then (hK43 _ _ ?_)
                    refine c_seq fun _ hK44 => ?_
                    refine c_seq fun _ hK45 => ?_
                    refine c_region ?_
                    refine o_step rfl (s_field rfl rfl (by decide)) ?_
                    refine o_step rfl (s_ld rfl (.own meA rfl)) ?_
                    refine o_step rfl (s_neq_f rfl rfl rfl) ?_
                    refine o_nil ?_
                    refine x_then (hK45 _ _ ?_)
                    refine c_false rfl ?_
                    refine c_skip ?_
                    refine x_then (hK44 _ _ ?_)
                    refine c_seq fun _ hK46 => ?_
                    refine c_seq fun _ hK47 => ?_
                    refine c_region ?_
                    refine o_step rfl (s_field rfl rfl (by decide)) ?_
                    by_cases hbe : b.e = true
                    · skip
                      refine o_step rfl (step_cast (v' := .bool true) (s_ld rfl (.own meA rfl)) (congrArg Value.bool hbe)) ?_
                      refine o_step rfl (s_not rfl) ?_
                      refine o_step rfl (s_move rfl) ?_
                      refine o_yes rfl rfl ?_
                      refine o_step rfl (s_field rfl rfl (by decide)) ?_
                      refine o_yes rfl rfl ?_
                      refine o_step rfl (s_ld rfl (.own meA rfl)) ?_
                      refine o_yes rfl rfl ?_
                      refine o_step rfl (s_field rfl rfl (by decide)) ?_
                      refine o_yes rfl rfl ?_
                      refine o_step rfl (s_ld rfl (.own meA rfl)) ?_
                      refine o_yes rfl rfl ?_
                      by_cases hgt : b.b.toNat < a.b.toNat
                      · skip
                        refine o_step rfl (step_cast (v' := .bool true) (s_gtr rfl rfl) (congrArg Value.bool (decide_eq_true (by show (a.b.toNat : Int) > b.b.toNat; omega)))) ?_
                        refine o_step rfl (s_pick_f rfl rfl) ?_
                        refine o_nil ?_
                        refine x_then (hK47 _ _ ?_)
                        refine c_true rfl ?_
                        refine c_seq fun _ hK48 => ?_
                        refine c_region ?_
                        refine o_step rfl (s_move rfl) ?_
                        refine o_step rfl (step_cast (v' := .agg (Ert (badR i 30)).toArray) (s_build (cs := [_, _, _, _, _, _, _, _, _, _]) (vs := [_, _]) rfl rfl (.cons rfl rfl rfl rfl rfl (.cons rfl rfl rfl rfl rfl (.nil)))) (by first | rfl | (simp only [Ert, badR, okR, Ec_zero]; rfl))) ?_
                        refine o_stW rfl rfl upA (ert_len _) (ert_len _) (ert_one _) ?_
                        refine o_nil ?_
                        refine x_then (hK48 _ _ ?_)
                        refine c_ret ?_
                        refine x_then_ret (?_)
                        exact x_ret rfl (.agg inferInstance inferInstance rfl (RdPK.cels (.own meA)) (ert_len _) (.nil)) (by exact ⟨_, rfl, (by rw [it_turn (ha d) hn hs hae (hb d) (by first | exact .inl hbe2 | exact .inr hgt)]; exact ⟨rfl, .inr rfl, by decide⟩)⟩)
                      · skip
                        refine o_step rfl (step_cast (v' := .bool false) (s_gtr rfl rfl) (congrArg Value.bool (decide_eq_false (by show ¬ (a.b.toNat : Int) > b.b.toNat; omega)))) ?_
                        refine o_step rfl (s_pick_f rfl rfl) ?_
                        refine o_nil ?_
                        refine x_then (hK47 _ _ ?_)
                        refine c_false rfl ?_
                        refine c_skip ?_
                        refine x_then (hK46 _ _ ?_)
                        refine c_seq fun _ hK49 => ?_
                        refine c_drawE ([(b8, .cells (Ert (okR (a.next + 1 : Nat) (sg l (a.next + 1) 45) b)).toArray 92 (0, 0)), (b7, .cells (Ert (okR i (sg l i 45) a)).toArray 92 (0, 0))]) (fun i => false) ?_
                        refine e_take 0 rfl (by kernel_rfl) (by kernel_rfl) (by kernel_rfl) (by kernel_rfl) (fun _ _ => rfl) rfl (by repeat (first | exact HSub.refl _ | exact HSub.nil | refine HSub.takeC pkB ?_)) (s_move rfl) ?_
                        refine e_take 1 rfl (by kernel_rfl) (by kernel_rfl) (by kernel_rfl) (by kernel_rfl) (fun _ _ => rfl) rfl (by repeat (first | exact HSub.refl _ | exact HSub.nil | refine HSub.takeC pkB ?_)) (s_field rfl rfl (by decide)) ?_
                        refine e_take 2 rfl (by kernel_rfl) (by kernel_rfl) (by kernel_rfl) (by kernel_rfl) (fun _ _ => rfl) rfl (by repeat (first | exact HSub.refl _ | exact HSub.nil | refine HSub.takeC pkB ?_)) (s_ld rfl (.own meA rfl)) ?_
                        refine e_take 3 rfl (by kernel_rfl) (by kernel_rfl) (by kernel_rfl) (by kernel_rfl) (fun _ _ => rfl) rfl (by repeat (first | exact HSub.refl _ | exact HSub.nil | refine HSub.takeC pkB ?_)) (s_field rfl rfl (by decide)) ?_
                        refine e_take 4 rfl (by kernel_rfl) (by kernel_rfl) (by kernel_rfl) (by kernel_rfl) (fun _ _ => rfl) rfl (by repeat (first | exact HSub.refl _ | exact HSub.nil | refine HSub.takeC pkB ?_)) (s_ld rfl (.own meA rfl)) ?_
                        refine e_take 5 rfl (by kernel_rfl) (by kernel_rfl) (by kernel_rfl) (by kernel_rfl) (fun _ _ => rfl) rfl (by repeat (first | exact HSub.refl _ | exact HSub.nil | refine HSub.takeC pkB ?_)) (s_field rfl rfl (by decide)) ?_
                        refine e_take 6 rfl (by kernel_rfl) (by kernel_rfl) (by kernel_rfl) (by kernel_rfl) (fun _ _ => rfl) rfl (by repeat (first | exact HSub.refl _ | exact HSub.nil | refine HSub.takeC pkB ?_)) (s_ld rfl (.own meA rfl)) ?_
                        refine e_one 7 rfl (by kernel_rfl) ?_
                        refine o_callP (rRange_fn a.b.toNat b.b.toNat (UInt8.toNat_lt _) (UInt8.toNat_lt _)) rfl rfl rfl (fun _ _ => trivial) (fun v93 hv93 => ?_)
                        subst hv93
                        refine o_nil ?_
                        refine x_oneS (by repeat (first | exact HSub.refl _ | exact HSub.nil | refine HSub.takeC pkB ?_)) ?_
                        refine e_one 8 rfl (by kernel_rfl) ?_
                        refine o_step rfl (step_cast (v' := .agg (Ert (⟨i, b.next, false, false, 0, rng a.b.toNat b.b.toNat, 0⟩)).toArray) (s_build (cs := [_, _, _, _, _, _, _, _, _, _]) (vs := [_, _, _]) rfl rfl (.cons rfl rfl rfl rfl rfl (.cons rfl rfl rfl rfl rfl (.cons rfl rfl rfl rfl rfl (.nil))))) (by first | rfl | (simp only [Ert, badR, okR, Ec_zero]; rfl))) ?_
                        refine o_nil ?_
                        refine x_oneS (by repeat (first | exact HSub.refl _ | exact HSub.nil | refine HSub.takeC pkB ?_)) ?_
                        refine e_one 9 rfl (by kernel_rfl) ?_
                        refine o_stW rfl rfl upA (ert_len _) (ert_len _) (ert_one _) ?_
                        refine o_nil ?_
                        refine x_oneS (by repeat (first | exact HSub.refl _ | exact HSub.nil | refine HSub.takeC pkB ?_)) ?_
                        refine e_done (by kernel_rfl) ?_
                        refine x_then (hK49 _ _ ?_)
                        refine c_ret ?_
                        refine ?_
                        exact x_ret rfl (.agg inferInstance inferInstance rfl (RdPK.cels (.own meA)) (ert_len _) (.nil)) (by exact ⟨_, rfl, (by rw [it_rng (ha d) hn hs hae (hb d) (by rintro (r | r); (rw [hbe] at r; cases r); exact hgt r)]; exact ⟨rfl, rfl, rfl⟩)⟩)
                    · skip
                      have hbe2 : b.e = false := by simpa using hbe
                      refine o_step rfl (step_cast (v' := .bool false) (s_ld rfl (.own meA rfl)) (congrArg Value.bool hbe2)) ?_
                      refine o_step rfl (s_not rfl) ?_
                      refine o_step rfl (s_move rfl) ?_
                      refine o_no rfl rfl rfl rfl ?_
                      refine o_no rfl rfl rfl rfl ?_
                      refine o_no rfl rfl rfl rfl ?_
                      refine o_no rfl rfl rfl rfl ?_
                      refine o_no rfl rfl rfl rfl ?_
                      refine o_step rfl (s_pick_t rfl rfl) ?_
                      refine o_nil ?_
                      refine x_then (hK47 _ _ ?_)
                      refine c_true rfl ?_
                      refine c_seq fun _ hK50 => ?_
                      refine c_region ?_
                      refine o_step rfl (s_move rfl) ?_
                      refine o_step rfl (step_cast (v' := .agg (Ert (badR i 30)).toArray) (s_build (cs := [_, _, _, _, _, _, _, _, _, _]) (vs := [_, _]) rfl rfl (.cons rfl rfl rfl rfl rfl (.cons rfl rfl rfl rfl rfl (.nil)))) (by first | rfl | (simp only [Ert, badR, okR, Ec_zero]; rfl))) ?_
                      refine o_stW rfl rfl upA (ert_len _) (ert_len _) (ert_one _) ?_
                      refine o_nil ?_
                      refine x_then (hK50 _ _ ?_)
                      refine c_ret ?_
                      refine x_then_ret (?_)
                      exact x_ret rfl (.agg inferInstance inferInstance rfl (RdPK.cels (.own meA)) (ert_len _) (.nil)) (by exact ⟨_, rfl, (by rw [it_turn (ha d) hn hs hae (hb d) (by first | exact .inl hbe2 | exact .inr hgt)]; exact ⟨rfl, .inr rfl, by decide⟩)⟩)
                  · skip
                    rw [hv] at hv69
                    subst hv69
                    refine o_alloc (l := Ert zRt) (by rw [ert_zero]; rfl) rfl fun b8 => ?_
                    refine o_stW rfl rfl upA (ert_len _) (ert_len _) (ert_one _) ?_
                    refine o_nil ?_
                    refine x_then (hK43 _ _ ?_)
                    refine c_seq fun _ hK51 => ?_
                    refine c_seq fun _ hK52 => ?_
                    refine c_region ?_
                    refine o_step rfl (s_field rfl rfl (by decide)) ?_
                    refine o_step rfl (s_ld rfl (.own meA rfl)) ?_
                    refine o_step rfl (s_neq_t rfl rfl (by simp [badR])) ?_
                    refine o_nil ?_
                    refine x_then (hK52 _ _ ?_)
                    refine c_true rfl ?_
                    refine c_seq fun _ hK53 => ?_
                    refine c_region ?_
                    refine o_step rfl (s_ldB rfl (RdPK.cels (.own meA)) (ert_len _)) ?_
                    refine o_stW rfl rfl upA (ert_len _) (ert_len _) (ert_one _) ?_
                    refine o_nil ?_
                    refine x_then (hK53 _ _ ?_)
                    refine c_ret ?_
                    refine x_then_ret (?_)
                    exact x_ret rfl (.agg inferInstance inferInstance rfl (RdPK.cels (.own meA)) (ert_len _) (.nil)) (by exact ⟨_, rfl, (by rw [it_second (ha d) hn hs hae (hbd d)]; exact ⟨rfl, .inl rfl, by decide⟩)⟩)
                  · skip
                    rw [hv] at hv69
                    subst hv69
                    refine o_alloc (l := Ert zRt) (by rw [ert_zero]; rfl) rfl fun b8 => ?_
                    refine o_stW rfl rfl upA (ert_len _) (ert_len _) (ert_one _) ?_
                    refine o_nil ?_
                    refine x_then (hK43 _ _ ?_)
                    refine c_seq fun _ hK54 => ?_
                    refine c_seq fun _ hK55 => ?_
                    refine c_region ?_
                    refine o_step rfl (s_field rfl rfl (by decide)) ?_
                    refine o_step rfl (s_ld rfl (.own meA rfl)) ?_
                    refine o_step rfl (s_neq_t rfl rfl (by simp [badR])) ?_
                    refine o_nil ?_
                    refine x_then (hK55 _ _ ?_)
                    refine c_true rfl ?_
                    refine c_seq fun _ hK56 => ?_
                    refine c_region ?_
                    refine o_step rfl (s_ldB rfl (RdPK.cels (.own meA)) (ert_len _)) ?_
                    refine o_stW rfl rfl upA (ert_len _) (ert_len _) (ert_one _) ?_
                    refine o_nil ?_
                    refine x_then (hK56 _ _ ?_)
                    refine c_ret ?_
                    refine x_then_ret (?_)
                    exact x_ret rfl (.agg inferInstance inferInstance rfl (RdPK.cels (.own meA)) (ert_len _) (.nil)) (by exact ⟨_, rfl, (by rw [it_second (ha d) hn hs hae (hbd d)]; exact ⟨rfl, .inr rfl, by decide⟩)⟩)
                · skip
                  have hae2 : a.e = false := by simpa using hae
                  refine o_step rfl (step_cast (v' := .bool false) (s_ld rfl (.own meA rfl)) (congrArg Value.bool hae2)) ?_
                  refine o_step rfl (s_not rfl) ?_
                  refine o_nil ?_
                  refine x_then (hK42 _ _ ?_)
                  refine c_true rfl ?_
                  refine c_seq fun _ hK57 => ?_
                  refine c_region ?_
                  refine o_step rfl (s_move rfl) ?_
                  refine o_step rfl (step_cast (v' := .agg (Ert (badR i 30)).toArray) (s_build (cs := [_, _, _, _, _, _, _, _, _, _]) (vs := [_, _]) rfl rfl (.cons rfl rfl rfl rfl rfl (.cons rfl rfl rfl rfl rfl (.nil)))) (by first | rfl | (simp only [Ert, badR, okR, Ec_zero]; rfl))) ?_
                  refine o_stW rfl rfl upA (ert_len _) (ert_len _) (ert_one _) ?_
                  refine o_nil ?_
                  refine x_then (hK57 _ _ ?_)
                  refine c_ret ?_
                  refine x_then_ret (?_)
                  exact x_ret rfl (.agg inferInstance inferInstance rfl (RdPK.cels (.own meA)) (ert_len _) (.nil)) (by exact ⟨_, rfl, (by rw [it_noend (ha d) hn hs hae2]; exact ⟨rfl, .inr rfl, by decide⟩)⟩)
              · skip
                refine o_step rfl (s_pick_f rfl rfl) ?_
                refine o_nil ?_
                refine x_then (hK38 _ _ ?_)
                refine c_true rfl ?_
                refine c_seq fun _ hK58 => ?_
                refine c_region ?_
                refine o_step rfl (s_ldB rfl (RdPK.cels (.own meA)) (ert_len _)) ?_
                refine o_stW rfl rfl upA (ert_len _) (ert_len _) (ert_one _) ?_
                refine o_nil ?_
                refine x_then (hK58 _ _ ?_)
                refine c_ret ?_
                refine x_then_ret (?_)
                exact x_ret rfl (.agg inferInstance inferInstance rfl (RdPK.cels (.own meA)) (ert_len _) (.nil)) (by exact ⟨_, rfl, (by rw [it_one (ha d) hn (by first | exact .inl q45 | exact .inr (.inl (by omega)) | exact .inr (.inr q93))]; exact ⟨rfl, rfl, rfl⟩)⟩)
      · skip
        refine o_step rfl (s_neq_f rfl rfl (hf.1 (by simpa using hff))) ?_
        refine o_step rfl (s_pick_t rfl rfl) ?_
        refine o_step rfl (s_move rfl) ?_
        refine o_no rfl rfl rfl rfl ?_
        refine o_no rfl rfl rfl rfl ?_
        refine o_no rfl rfl rfl rfl ?_
        refine o_no rfl rfl rfl rfl ?_
        refine o_no rfl rfl rfl rfl ?_
        refine o_step rfl (s_pick_f rfl rfl) ?_
        refine o_nil ?_
        refine x_then (hK32 _ _ ?_)
        refine c_false rfl ?_
        refine c_skip ?_
        refine x_then (hK31 _ _ ?_)
        refine c_seq fun _ hK59 => ?_
        refine c_seq fun _ hK60 => ?_
        refine c_region ?_
        refine o_step rfl (s_move rfl) ?_
        refine o_step rfl (s_field rfl rfl (by decide)) ?_
        refine o_step rfl (step_cast (v' := .int .i64 (a.next : Int)) (s_ld rfl (.own meA rfl)) rfl) ?_
        have hn : ¬ (sg l i 45 = true ∧ f = false ∧ sg l (i + 1) 93 = false) := (by rintro ⟨r1, r2, r3⟩; first | exact absurd r1 (by rw [h45]; decide) | exact hff r2 | exact absurd r3 (by rw [h93]; decide))
        refine o_callP (rSign_fn la lc l (a.next) 45 45 (by decide)) rfl rfl rfl (fun w st => (RdK.old0 hw).out w st) (fun v42 hv42 => ?_)
        subst hv42
        cases q45 : sg l (a.next) 45
        · skip
          refine o_step rfl (s_not rfl) ?_
          refine o_step rfl (s_move rfl) ?_
          refine o_no rfl rfl rfl rfl ?_
          refine o_no rfl rfl rfl rfl ?_
          refine o_no rfl rfl rfl rfl ?_
          refine o_no rfl rfl rfl rfl ?_
          refine o_no rfl rfl rfl rfl ?_
          refine o_no rfl rfl rfl rfl ?_
          refine o_step rfl (s_pick_t rfl rfl) ?_
          refine o_step rfl (s_move rfl) ?_
          refine o_no rfl rfl rfl rfl ?_
          refine o_no rfl rfl rfl rfl ?_
          refine o_no rfl rfl rfl rfl ?_
          refine o_no rfl rfl rfl rfl ?_
          refine o_no rfl rfl rfl rfl ?_
          refine o_step rfl (s_pick_t rfl rfl) ?_
          refine o_nil ?_
          refine x_then (hK60 _ _ ?_)
          refine c_true rfl ?_
          refine c_seq fun _ hK61 => ?_
          refine c_region ?_
          refine o_step rfl (s_ldB rfl (RdPK.cels (.own meA)) (ert_len _)) ?_
          refine o_stW rfl rfl upA (ert_len _) (ert_len _) (ert_one _) ?_
          refine o_nil ?_
          refine x_then (hK61 _ _ ?_)
          refine c_ret ?_
          refine x_then_ret (?_)
          exact x_ret rfl (.agg inferInstance inferInstance rfl (RdPK.cels (.own meA)) (ert_len _) (.nil)) (by exact ⟨_, rfl, (by rw [it_one (ha d) hn (by first | exact .inl q45 | exact .inr (.inl (by omega)) | exact .inr (.inr q93))]; exact ⟨rfl, rfl, rfl⟩)⟩)
        · skip
          refine o_step rfl (s_not rfl) ?_
          refine o_step rfl (s_move rfl) ?_
          refine o_yes rfl rfl ?_
          refine o_step rfl (s_field rfl rfl (by decide)) ?_
          refine o_yes rfl rfl ?_
          refine o_step rfl (step_cast (v' := .int .i64 (a.next : Int)) (s_ld rfl (.own meA rfl)) rfl) ?_
          refine o_yes rfl rfl ?_
          refine o_step rfl (s_add rfl rfl (by omega)) ?_
          refine o_yes rfl rfl ?_
          refine o_step rfl (s_move rfl) ?_
          refine o_yes rfl rfl ?_
          refine o_step rfl (s_len rfl) ?_
          refine o_yes rfl rfl ?_
          by_cases hl2 : l.length ≤ a.next + 1
          · skip
            refine o_step rfl (step_cast (v' := .bool true) (s_geq rfl rfl) (by rw [decide_eq_true (by omega)])) ?_
            refine o_step rfl (s_pick_f rfl rfl) ?_
            refine o_step rfl (s_move rfl) ?_
            refine o_no rfl rfl rfl rfl ?_
            refine o_no rfl rfl rfl rfl ?_
            refine o_no rfl rfl rfl rfl ?_
            refine o_no rfl rfl rfl rfl ?_
            refine o_no rfl rfl rfl rfl ?_
            refine o_step rfl (s_pick_t rfl rfl) ?_
            refine o_nil ?_
            refine x_then (hK60 _ _ ?_)
            refine c_true rfl ?_
            refine c_seq fun _ hK62 => ?_
            refine c_region ?_
            refine o_step rfl (s_ldB rfl (RdPK.cels (.own meA)) (ert_len _)) ?_
            refine o_stW rfl rfl upA (ert_len _) (ert_len _) (ert_one _) ?_
            refine o_nil ?_
            refine x_then (hK62 _ _ ?_)
            refine c_ret ?_
            refine x_then_ret (?_)
            exact x_ret rfl (.agg inferInstance inferInstance rfl (RdPK.cels (.own meA)) (ert_len _) (.nil)) (by exact ⟨_, rfl, (by rw [it_one (ha d) hn (by first | exact .inl q45 | exact .inr (.inl (by omega)) | exact .inr (.inr q93))]; exact ⟨rfl, rfl, rfl⟩)⟩)
          · skip
            refine o_step rfl (step_cast (v' := .bool false) (s_geq rfl rfl) (by rw [decide_eq_false (by omega)])) ?_
            refine o_step rfl (s_pick_f rfl rfl) ?_
            refine o_step rfl (s_move rfl) ?_
            refine o_yes rfl rfl ?_
            refine o_step rfl (s_move rfl) ?_
            refine o_yes rfl rfl ?_
            refine o_step rfl (s_field rfl rfl (by decide)) ?_
            refine o_yes rfl rfl ?_
            refine o_step rfl (step_cast (v' := .int .i64 (a.next : Int)) (s_ld rfl (.own meA rfl)) rfl) ?_
            refine o_yes rfl rfl ?_
            refine o_step rfl (s_add rfl rfl (by omega)) ?_
            refine o_yes rfl rfl ?_
            refine o_callP (rSign_fn la lc l (a.next + 1) 93 93 (by decide)) rfl rfl rfl (fun w st => (RdK.old0 hw).out w st) (fun v57 hv57 => ?_)
            subst hv57
            cases q93 : sg l (a.next + 1) 93
            · skip
              refine o_step rfl (s_pick_f rfl rfl) ?_
              refine o_nil ?_
              refine x_then (hK60 _ _ ?_)
              refine c_false rfl ?_
              refine c_skip ?_
              refine x_then (hK59 _ _ ?_)
              refine c_seq fun _ hK63 => ?_
              refine c_seq fun _ hK64 => ?_
              refine c_region ?_
              have hs : ¬ (sg l a.next 45 = false ∨ l.length ≤ a.next + 1 ∨ sg l (a.next + 1) 93 = true) := by rintro (r | r | r); (rw [q45] at r; cases r); omega; (rw [q93] at r; cases r)
              refine o_step rfl (s_field rfl rfl (by decide)) ?_
              by_cases hae : a.e = true
              · skip
                refine o_step rfl (step_cast (v' := .bool true) (s_ld rfl (.own meA rfl)) (congrArg Value.bool hae)) ?_
                refine o_step rfl (s_not rfl) ?_
                refine o_nil ?_
                refine x_then (hK64 _ _ ?_)
                refine c_false rfl ?_
                refine c_skip ?_
                refine x_then (hK63 _ _ ?_)
                refine c_seq fun _ hK65 => ?_
                refine c_region ?_
                refine o_step rfl (s_move rfl) ?_
                refine o_step rfl (s_field rfl rfl (by decide)) ?_
                refine o_step rfl (step_cast (v' := .int .i64 (a.next : Int)) (s_ld rfl (.own meA rfl)) rfl) ?_
                refine o_step rfl (s_add rfl rfl (by omega)) ?_
                refine o_callP (rThing_fn la lc l (a.next + 1)) rfl rfl rfl (fun w st => (RdK.old0 hw).out w st) (fun v69 hv69 => ?_)
                rcases thV_how l (a.next + 1) with ⟨b, hb, hv⟩ | ⟨hbd, hv⟩ | ⟨hbd, hv⟩
                · skip
                  rw [hv] at hv69
                  subst hv69
                  refine o_alloc (l := Ert zRt) (by rw [ert_zero]; rfl) rfl fun b8 => ?_
                  refine o_stW rfl rfl upA (ert_len _) (ert_len _) (ert_one _) ?_
                  refine o_nil ?_
                  refine x_then (hK65 _ _ ?_)
                  refine c_seq fun _ hK66 => ?_
                  refine c_seq fun _ hK67 => ?_
                  refine c_region ?_
                  refine o_step rfl (s_field rfl rfl (by decide)) ?_
                  refine o_step rfl (s_ld rfl (.own meA rfl)) ?_
                  refine o_step rfl (s_neq_f rfl rfl rfl) ?_
                  refine o_nil ?_
                  refine x_then (hK67 _ _ ?_)
                  refine c_false rfl ?_
                  refine c_skip ?_
                  refine x_then (hK66 _ _ ?_)
                  refine c_seq fun _ hK68 => ?_
                  refine c_seq fun _ hK69 => ?_
                  refine c_region ?_
                  refine o_step rfl (s_field rfl rfl (by decide)) ?_
                  by_cases hbe : b.e = true
                  · skip
                    refine o_step rfl (step_cast (v' := .bool true) (s_ld rfl (.own meA rfl)) (congrArg Value.bool hbe)) ?_
                    refine o_step rfl (s_not rfl) ?_
                    refine o_step rfl (s_move rfl) ?_
                    refine o_yes rfl rfl ?_
                    refine o_step rfl (s_field rfl rfl (by decide)) ?_
                    refine o_yes rfl rfl ?_
                    refine o_step rfl (s_ld rfl (.own meA rfl)) ?_
                    refine o_yes rfl rfl ?_
                    refine o_step rfl (s_field rfl rfl (by decide)) ?_
                    refine o_yes rfl rfl ?_
                    refine o_step rfl (s_ld rfl (.own meA rfl)) ?_
                    refine o_yes rfl rfl ?_
                    by_cases hgt : b.b.toNat < a.b.toNat
                    · skip
                      refine o_step rfl (step_cast (v' := .bool true) (s_gtr rfl rfl) (congrArg Value.bool (decide_eq_true (by show (a.b.toNat : Int) > b.b.toNat; omega)))) ?_
                      refine o_step rfl (s_pick_f rfl rfl) ?_
                      refine o_nil ?_
                      refine x_then (hK69 _ _ ?_)
                      refine c_true rfl ?_
                      refine c_seq fun _ hK70 => ?_
                      refine c_region ?_
                      refine o_step rfl (s_move rfl) ?_
                      refine o_step rfl (step_cast (v' := .agg (Ert (badR i 30)).toArray) (s_build (cs := [_, _, _, _, _, _, _, _, _, _]) (vs := [_, _]) rfl rfl (.cons rfl rfl rfl rfl rfl (.cons rfl rfl rfl rfl rfl (.nil)))) (by first | rfl | (simp only [Ert, badR, okR, Ec_zero]; rfl))) ?_
                      refine o_stW rfl rfl upA (ert_len _) (ert_len _) (ert_one _) ?_
                      refine o_nil ?_
                      refine x_then (hK70 _ _ ?_)
                      refine c_ret ?_
                      refine x_then_ret (?_)
                      exact x_ret rfl (.agg inferInstance inferInstance rfl (RdPK.cels (.own meA)) (ert_len _) (.nil)) (by exact ⟨_, rfl, (by rw [it_turn (ha d) hn hs hae (hb d) (by first | exact .inl hbe2 | exact .inr hgt)]; exact ⟨rfl, .inr rfl, by decide⟩)⟩)
                    · skip
                      refine o_step rfl (step_cast (v' := .bool false) (s_gtr rfl rfl) (congrArg Value.bool (decide_eq_false (by show ¬ (a.b.toNat : Int) > b.b.toNat; omega)))) ?_
                      refine o_step rfl (s_pick_f rfl rfl) ?_
                      refine o_nil ?_
                      refine x_then (hK69 _ _ ?_)
                      refine c_false rfl ?_
                      refine c_skip ?_
                      refine x_then (hK68 _ _ ?_)
                      refine c_seq fun _ hK71 => ?_
                      refine c_drawE ([(b8, .cells (Ert (okR (a.next + 1 : Nat) (sg l (a.next + 1) 45) b)).toArray 92 (0, 0)), (b7, .cells (Ert (okR i (sg l i 45) a)).toArray 92 (0, 0))]) (fun i => false) ?_
                      refine e_take 0 rfl (by kernel_rfl) (by kernel_rfl) (by kernel_rfl) (by kernel_rfl) (fun _ _ => rfl) rfl (by repeat (first | exact HSub.refl _ | exact HSub.nil | refine HSub.takeC pkB ?_)) (s_move rfl) ?_
                      refine e_take 1 rfl (by kernel_rfl) (by kernel_rfl) (by kernel_rfl) (by kernel_rfl) (fun _ _ => rfl) rfl (by repeat (first | exact HSub.refl _ | exact HSub.nil | refine HSub.takeC pkB ?_)) (s_field rfl rfl (by decide)) ?_
                      refine e_take 2 rfl (by kernel_rfl) (by kernel_rfl) (by kernel_rfl) (by kernel_rfl) (fun _ _ => rfl) rfl (by repeat (first | exact HSub.refl _ | exact HSub.nil | refine HSub.takeC pkB ?_)) (s_ld rfl (.own meA rfl)) ?_
                      refine e_take 3 rfl (by kernel_rfl) (by kernel_rfl) (by kernel_rfl) (by kernel_rfl) (fun _ _ => rfl) rfl (by repeat (first | exact HSub.refl _ | exact HSub.nil | refine HSub.takeC pkB ?_)) (s_field rfl rfl (by decide)) ?_
                      refine e_take 4 rfl (by kernel_rfl) (by kernel_rfl) (by kernel_rfl) (by kernel_rfl) (fun _ _ => rfl) rfl (by repeat (first | exact HSub.refl _ | exact HSub.nil | refine HSub.takeC pkB ?_)) (s_ld rfl (.own meA rfl)) ?_
                      refine e_take 5 rfl (by kernel_rfl) (by kernel_rfl) (by kernel_rfl) (by kernel_rfl) (fun _ _ => rfl) rfl (by repeat (first | exact HSub.refl _ | exact HSub.nil | refine HSub.takeC pkB ?_)) (s_field rfl rfl (by decide)) ?_
                      refine e_take 6 rfl (by kernel_rfl) (by kernel_rfl) (by kernel_rfl) (by kernel_rfl) (fun _ _ => rfl) rfl (by repeat (first | exact HSub.refl _ | exact HSub.nil | refine HSub.takeC pkB ?_)) (s_ld rfl (.own meA rfl)) ?_
                      refine e_one 7 rfl (by kernel_rfl) ?_
                      refine o_callP (rRange_fn a.b.toNat b.b.toNat (UInt8.toNat_lt _) (UInt8.toNat_lt _)) rfl rfl rfl (fun _ _ => trivial) (fun v93 hv93 => ?_)
                      subst hv93
                      refine o_nil ?_
                      refine x_oneS (by repeat (first | exact HSub.refl _ | exact HSub.nil | refine HSub.takeC pkB ?_)) ?_
                      refine e_one 8 rfl (by kernel_rfl) ?_
                      refine o_step rfl (step_cast (v' := .agg (Ert (⟨i, b.next, false, false, 0, rng a.b.toNat b.b.toNat, 0⟩)).toArray) (s_build (cs := [_, _, _, _, _, _, _, _, _, _]) (vs := [_, _, _]) rfl rfl (.cons rfl rfl rfl rfl rfl (.cons rfl rfl rfl rfl rfl (.cons rfl rfl rfl rfl rfl (.nil))))) (by first | rfl | (simp only [Ert, badR, okR, Ec_zero]; rfl))) ?_
                      refine o_nil ?_
                      refine x_oneS (by repeat (first | exact HSub.refl _ | exact HSub.nil | refine HSub.takeC pkB ?_)) ?_
                      refine e_one 9 rfl (by kernel_rfl) ?_
                      refine o_stW rfl rfl upA (ert_len _) (ert_len _) (ert_one _) ?_
                      refine o_nil ?_
                      refine x_oneS (by repeat (first | exact HSub.refl _ | exact HSub.nil | refine HSub.takeC pkB ?_)) ?_
                      refine e_done (by kernel_rfl) ?_
                      refine x_then (hK71 _ _ ?_)
                      refine c_ret ?_
                      refine ?_
                      exact x_ret rfl (.agg inferInstance inferInstance rfl (RdPK.cels (.own meA)) (ert_len _) (.nil)) (by exact ⟨_, rfl, (by rw [it_rng (ha d) hn hs hae (hb d) (by rintro (r | r); (rw [hbe] at r; cases r); exact hgt r)]; exact ⟨rfl, rfl, rfl⟩)⟩)
                  · skip
                    have hbe2 : b.e = false := by simpa using hbe
                    refine o_step rfl (step_cast (v' := .bool false) (s_ld rfl (.own meA rfl)) (congrArg Value.bool hbe2)) ?_
                    refine o_step rfl (s_not rfl) ?_
                    refine o_step rfl (s_move rfl) ?_
                    refine o_no rfl rfl rfl rfl ?_
                    refine o_no rfl rfl rfl rfl ?_
                    refine o_no rfl rfl rfl rfl ?_
                    refine o_no rfl rfl rfl rfl ?_
                    refine o_no rfl rfl rfl rfl ?_
                    refine o_step rfl (s_pick_t rfl rfl) ?_
                    refine o_nil ?_
                    refine x_then (hK69 _ _ ?_)
                    refine c_true rfl ?_
                    refine c_seq fun _ hK72 => ?_
                    refine c_region ?_
                    refine o_step rfl (s_move rfl) ?_
                    refine o_step rfl (step_cast (v' := .agg (Ert (badR i 30)).toArray) (s_build (cs := [_, _, _, _, _, _, _, _, _, _]) (vs := [_, _]) rfl rfl (.cons rfl rfl rfl rfl rfl (.cons rfl rfl rfl rfl rfl (.nil)))) (by first | rfl | (simp only [Ert, badR, okR, Ec_zero]; rfl))) ?_
                    refine o_stW rfl rfl upA (ert_len _) (ert_len _) (ert_one _) ?_
                    refine o_nil ?_
                    refine x_then (hK72 _ _ ?_)
                    refine c_ret ?_
                    refine x_then_ret (?_)
                    exact x_ret rfl (.agg inferInstance inferInstance rfl (RdPK.cels (.own meA)) (ert_len _) (.nil)) (by exact ⟨_, rfl, (by rw [it_turn (ha d) hn hs hae (hb d) (by first | exact .inl hbe2 | exact .inr hgt)]; exact ⟨rfl, .inr rfl, by decide⟩)⟩)
                · skip
                  rw [hv] at hv69
                  subst hv69
                  refine o_alloc (l := Ert zRt) (by rw [ert_zero]; rfl) rfl fun b8 => ?_
                  refine o_stW rfl rfl upA (ert_len _) (ert_len _) (ert_one _) ?_
                  refine o_nil ?_
                  refine x_then (hK65 _ _ ?_)
                  refine c_seq fun _ hK73 => ?_
                  refine c_seq fun _ hK74 => ?_
                  refine c_region ?_
                  refine o_step rfl (s_field rfl rfl (by decide)) ?_
                  refine o_step rfl (s_ld rfl (.own meA rfl)) ?_
                  refine o_step rfl (s_neq_t rfl rfl (by simp [badR])) ?_
                  refine o_nil ?_
                  refine x_then (hK74 _ _ ?_)
                  refine c_true rfl ?_
                  refine c_seq fun _ hK75 => ?_
                  refine c_region ?_
                  refine o_step rfl (s_ldB rfl (RdPK.cels (.own meA)) (ert_len _)) ?_
                  refine o_stW rfl rfl upA (ert_len _) (ert_len _) (ert_one _) ?_
                  refine o_nil ?_
                  refine x_then (hK75 _ _ ?_)
                  refine c_ret ?_
                  refine x_then_ret (?_)
                  exact x_ret rfl (.agg inferInstance inferInstance rfl (RdPK.cels (.own meA)) (ert_len _) (.nil)) (by exact ⟨_, rfl, (by rw [it_second (ha d) hn hs hae (hbd d)]; exact ⟨rfl, .inl rfl, by decide⟩)⟩)
                · skip
                  rw [hv] at hv69
                  subst hv69
                  refine o_alloc (l := Ert zRt) (by rw [ert_zero]; rfl) rfl fun b8 => ?_
                  refine o_stW rfl rfl upA (ert_len _) (ert_len _) (ert_one _) ?_
                  refine o_nil ?_
                  refine x_then (hK65 _ _ ?_)
                  refine c_seq fun _ hK76 => ?_
                  refine c_seq fun _ hK77 => ?_
                  refine c_region ?_
                  refine o_step rfl (s_field rfl rfl (by decide)) ?_
                  refine o_step rfl (s_ld rfl (.own meA rfl)) ?_
                  refine o_step rfl (s_neq_t rfl rfl (by simp [badR])) ?_
                  refine o_nil ?_
                  refine x_then (hK77 _ _ ?_)
                  refine c_true rfl ?_
                  refine c_seq fun _ hK78 => ?_
                  refine c_region ?_
                  refine o_step rfl (s_ldB rfl (RdPK.cels (.own meA)) (ert_len _)) ?_
                  refine o_stW rfl rfl upA (ert_len _) (ert_len _) (ert_one _) ?_
                  refine o_nil ?_
                  refine x_then (hK78 _ _ ?_)
                  refine c_ret ?_
                  refine x_then_ret (?_)
                  exact x_ret rfl (.agg inferInstance inferInstance rfl (RdPK.cels (.own meA)) (ert_len _) (.nil)) (by exact ⟨_, rfl, (by rw [it_second (ha d) hn hs hae (hbd d)]; exact ⟨rfl, .inr rfl, by decide⟩)⟩)
              · skip
                have hae2 : a.e = false := by simpa using hae
                refine o_step rfl (step_cast (v' := .bool false) (s_ld rfl (.own meA rfl)) (congrArg Value.bool hae2)) ?_
                refine o_step rfl (s_not rfl) ?_
                refine o_nil ?_
                refine x_then (hK64 _ _ ?_)
                refine c_true rfl ?_
                refine c_seq fun _ hK79 => ?_
                refine c_region ?_
                refine o_step rfl (s_move rfl) ?_
                refine o_step rfl (step_cast (v' := .agg (Ert (badR i 30)).toArray) (s_build (cs := [_, _, _, _, _, _, _, _, _, _]) (vs := [_, _]) rfl rfl (.cons rfl rfl rfl rfl rfl (.cons rfl rfl rfl rfl rfl (.nil)))) (by first | rfl | (simp only [Ert, badR, okR, Ec_zero]; rfl))) ?_
                refine o_stW rfl rfl upA (ert_len _) (ert_len _) (ert_one _) ?_
                refine o_nil ?_
                refine x_then (hK79 _ _ ?_)
                refine c_ret ?_
                refine x_then_ret (?_)
                exact x_ret rfl (.agg inferInstance inferInstance rfl (RdPK.cels (.own meA)) (ert_len _) (.nil)) (by exact ⟨_, rfl, (by rw [it_noend (ha d) hn hs hae2]; exact ⟨rfl, .inr rfl, by decide⟩)⟩)
            · skip
              refine o_step rfl (s_pick_f rfl rfl) ?_
              refine o_nil ?_
              refine x_then (hK60 _ _ ?_)
              refine c_true rfl ?_
              refine c_seq fun _ hK80 => ?_
              refine c_region ?_
              refine o_step rfl (s_ldB rfl (RdPK.cels (.own meA)) (ert_len _)) ?_
              refine o_stW rfl rfl upA (ert_len _) (ert_len _) (ert_one _) ?_
              refine o_nil ?_
              refine x_then (hK80 _ _ ?_)
              refine c_ret ?_
              refine x_then_ret (?_)
              exact x_ret rfl (.agg inferInstance inferInstance rfl (RdPK.cels (.own meA)) (ert_len _) (.nil)) (by exact ⟨_, rfl, (by rw [it_one (ha d) hn (by first | exact .inl q45 | exact .inr (.inl (by omega)) | exact .inr (.inr q93))]; exact ⟨rfl, rfl, rfl⟩)⟩)
  · skip
    rw [hv] at hv11
    subst hv11
    refine o_alloc (l := Ert zRt) (by rw [ert_zero]; rfl) rfl fun b7 => ?_
    refine o_stW rfl rfl upA (ert_len _) (ert_len _) (ert_one _) ?_
    refine o_nil ?_
    refine x_then (hK2 _ _ ?_)
    refine c_seq fun _ hK81 => ?_
    refine c_seq fun _ hK82 => ?_
    refine c_region ?_
    refine o_step rfl (s_field rfl rfl (by decide)) ?_
    refine o_step rfl (s_ld rfl (.own meA rfl)) ?_
    refine o_step rfl (s_neq_t rfl rfl (by simp [badR])) ?_
    refine o_nil ?_
    refine x_then (hK82 _ _ ?_)
    refine c_true rfl ?_
    refine c_seq fun _ hK83 => ?_
    refine c_region ?_
    refine o_step rfl (s_ldB rfl (RdPK.cels (.own meA)) (ert_len _)) ?_
    refine o_stW rfl rfl upA (ert_len _) (ert_len _) (ert_one _) ?_
    refine o_nil ?_
    refine x_then (hK83 _ _ ?_)
    refine c_ret ?_
    refine x_then_ret (?_)
    exact x_ret rfl (.agg inferInstance inferInstance rfl (RdPK.cels (.own meA)) (ert_len _) (.nil)) (by exact ⟨_, rfl, (by rw [it_bad (hbd d)]; exact ⟨rfl, .inl rfl, by decide⟩)⟩)
  · skip
    rw [hv] at hv11
    subst hv11
    refine o_alloc (l := Ert zRt) (by rw [ert_zero]; rfl) rfl fun b7 => ?_
    refine o_stW rfl rfl upA (ert_len _) (ert_len _) (ert_one _) ?_
    refine o_nil ?_
    refine x_then (hK2 _ _ ?_)
    refine c_seq fun _ hK84 => ?_
    refine c_seq fun _ hK85 => ?_
    refine c_region ?_
    refine o_step rfl (s_field rfl rfl (by decide)) ?_
    refine o_step rfl (s_ld rfl (.own meA rfl)) ?_
    refine o_step rfl (s_neq_t rfl rfl (by simp [badR])) ?_
    refine o_nil ?_
    refine x_then (hK85 _ _ ?_)
    refine c_true rfl ?_
    refine c_seq fun _ hK86 => ?_
    refine c_region ?_
    refine o_step rfl (s_ldB rfl (RdPK.cels (.own meA)) (ert_len _)) ?_
    refine o_stW rfl rfl upA (ert_len _) (ert_len _) (ert_one _) ?_
    refine o_nil ?_
    refine x_then (hK86 _ _ ?_)
    refine c_ret ?_
    refine x_then_ret (?_)
    exact x_ret rfl (.agg inferInstance inferInstance rfl (RdPK.cels (.own meA)) (ert_len _) (.nil)) (by exact ⟨_, rfl, (by rw [it_bad (hbd d)]; exact ⟨rfl, .inr rfl, by decide⟩)⟩)
end Go.Proofs.YtafbigmneipkiaaDoor
