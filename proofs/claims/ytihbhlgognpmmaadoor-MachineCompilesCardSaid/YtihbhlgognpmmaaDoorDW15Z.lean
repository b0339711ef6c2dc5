/- Part of the proofs over this seat: see the text that holds the theorem. Conditions: each theorem bears its own. -/
import Derived.Test.YtihbhlgognpmmaaDoorDW13Z
import Derived.Test.YtihbhlgognpmmaaDoorMT17Z
import Derived.Test.YtihbhlgognpmmaaDoorDW12Z
import Derived.Test.YtihbhlgognpmmaaDoorDW9Z
namespace Go.Proofs.YtihbhlgognpmmaaDoor
open Go Go.HL Go.Proofs Go.HL.Kl Go.HL.Kl.Mc
set_option maxHeartbeats 4000000 in
theorem ends_fn (ra : Option Addr) (rc : Nat) (m : List In) (hmr : ∀ t ∈ m, -128 ≤ t.op ∧ t.op < 128) (ta : Option Addr) (tc : Nat) (w : List UInt8) (hwl : w.length < 140737488355328) (f : Int) : HL.Fn Tryd.prog 20 [.slice ra m.length rc, .slice ta w.length tc, .int .i64 f] (fun w0 => Rd Ein w0 (.slice ra m.length rc) m ∧ Rd Eb w0 (.slice ta w.length tc) w) [] (EndsC m w f) := by
  refine fn_of Tryd.func20 rfl rfl rfl fun w0 hw => ?_
  have hsl := hw.1.sl
  have hsw := hw.2.sl
  have hbl := hsl.le
  have hbw := hsw.le
  refine c_seq fun _ hK1 => ?_
  refine c_region ?_
  refine o_step rfl (s_assign rfl) ?_
  refine o_nil ?_
  refine x_then (hK1 _ _ ?_)
  refine c_seq fun _ hK2 => ?_
  refine c_region ?_
  refine o_step rfl (s_move rfl) ?_
  refine o_step rfl (s_len rfl) ?_
  refine o_step rfl (s_add rfl rfl (by omega)) ?_
  refine o_make (E := Ebo) (zx := false) (n := w.length + 1) rfl rfl rfl (by omega) (by omega) rfl fun b16 S16 hS16 => ?_
  refine o_step rfl (s_assign rfl) ?_
  refine o_nil ?_
  refine x_then (hK2 _ _ ?_)
  refine c_seq fun _ hK3 => ?_
  refine c_seq fun _ hK4 => ?_
  refine c_region ?_
  refine o_step rfl (s_move rfl) ?_
  by_cases hf0 : f < 0
  ·
   refine o_step rfl (step_cast (v' := .bool true) (s_lss rfl rfl) (by rw [decide_eq_true (by omega)])) ?_
   refine o_step rfl (s_move rfl) ?_
   refine o_no rfl rfl rfl rfl ?_
   refine o_no rfl rfl rfl rfl ?_
   refine o_no rfl rfl rfl rfl ?_
   refine o_no rfl rfl rfl rfl ?_
   refine o_step rfl (s_pick_t rfl rfl) ?_
   refine o_step rfl (s_move rfl) ?_
   refine o_no rfl rfl rfl rfl ?_
   refine o_no rfl rfl rfl rfl ?_
   refine o_no rfl rfl rfl rfl ?_
   refine o_step rfl (s_pick_t rfl rfl) ?_
   refine o_nil ?_
   refine x_then (hK4 _ _ ?_)
   refine c_true rfl ?_
   refine c_seq fun _ hK5 => ?_
   refine c_region ?_
   refine o_step rfl (s_move rfl) ?_
   refine o_step rfl (s_assign rfl) ?_
   refine o_nil ?_
   refine x_then (hK5 _ _ ?_)
   refine c_ret ?_
   refine x_then_ret (?_)
   refine x_sub (Sub.refl _) (H' := S16) hzB ?_
   exact x_ret rfl (.tmp rfl (.nil)) ((.of hS16 (.no (by omega))))
  ·
   refine o_step rfl (step_cast (v' := .bool false) (s_lss rfl rfl) (by rw [decide_eq_false (by omega)])) ?_
   refine o_step rfl (s_move rfl) ?_
   refine o_yes rfl rfl ?_
   refine o_step rfl (s_move rfl) ?_
   refine o_yes rfl rfl ?_
   refine o_step rfl (s_move rfl) ?_
   refine o_yes rfl rfl ?_
   refine o_step rfl (s_len rfl) ?_
   refine o_yes rfl rfl ?_
   by_cases hfl : f > w.length
   ·
    refine o_step rfl (step_cast (v' := .bool true) (s_gtr rfl rfl) (by rw [decide_eq_true (by omega)])) ?_
    refine o_step rfl (s_pick_f rfl rfl) ?_
    refine o_step rfl (s_move rfl) ?_
    refine o_no rfl rfl rfl rfl ?_
    refine o_no rfl rfl rfl rfl ?_
    refine o_no rfl rfl rfl rfl ?_
    refine o_step rfl (s_pick_t rfl rfl) ?_
    refine o_nil ?_
    refine x_then (hK4 _ _ ?_)
    refine c_true rfl ?_
    refine c_seq fun _ hK6 => ?_
    refine c_region ?_
    refine o_step rfl (s_move rfl) ?_
    refine o_step rfl (s_assign rfl) ?_
    refine o_nil ?_
    refine x_then (hK6 _ _ ?_)
    refine c_ret ?_
    refine x_then_ret (?_)
    refine x_sub (Sub.refl _) (H' := S16) hzB ?_
    exact x_ret rfl (.tmp rfl (.nil)) ((.of hS16 (.no (by omega))))
   ·
    obtain ⟨g, rfl⟩ : ∃ g : Nat, f = g := ⟨f.toNat, by omega⟩
    refine o_step rfl (step_cast (v' := .bool false) (s_gtr rfl rfl) (by rw [decide_eq_false (by omega)])) ?_
    refine o_step rfl (s_pick_f rfl rfl) ?_
    refine o_step rfl (s_move rfl) ?_
    refine o_yes rfl rfl ?_
    refine o_step rfl (s_move rfl) ?_
    refine o_yes rfl rfl ?_
    refine o_callP (rMShaped_fn ra rc m hmr) rfl rfl rfl (fun w st => (RdK.old0 hw.1).out w st) (fun v27 hv27 => ?_)
    subst hv27
    cases hs : mokB m
    ·
     refine o_yes rfl rfl ?_
     refine o_step rfl (s_not rfl) ?_
     refine o_step rfl (s_pick_f rfl rfl) ?_
     refine o_nil ?_
     refine x_then (hK4 _ _ ?_)
     refine c_true rfl ?_
     refine c_seq fun _ hK7 => ?_
     refine c_region ?_
     refine o_step rfl (s_move rfl) ?_
     refine o_step rfl (s_assign rfl) ?_
     refine o_nil ?_
     refine x_then (hK7 _ _ ?_)
     refine c_ret ?_
     refine x_then_ret (?_)
     refine x_sub (Sub.refl _) (H' := S16) hzB ?_
     exact x_ret rfl (.tmp rfl (.nil)) ((.of hS16 (.no (.inr (.inr fun h => by rw [mokB_iff.2 h] at hs; cases hs)))))
    ·
     have hM := mokB_iff.1 hs
     have hml := hM.2.1
     refine o_yes rfl rfl ?_
     refine o_step rfl (s_not rfl) ?_
     refine o_step rfl (s_pick_f rfl rfl) ?_
     refine o_nil ?_
     refine x_then (hK4 _ _ ?_)
     refine c_false rfl ?_
     refine c_skip ?_
     refine x_then (hK3 _ _ ?_)
     refine c_seq fun _ hK8 => ?_
     refine c_region ?_
     refine o_bs (E := Eix) (xs := [0]) (vs := [_]) rfl rfl rfl rfl rfl (by decide) (by decide) fun b31 S31 hS31 => ?_
     refine o_step rfl (s_assign rfl) ?_
     refine o_nil ?_
     refine x_then (hK8 _ _ ?_)
     refine c_seq fun _ hK9 => ?_
     refine c_seq fun _ hK10 => ?_
     refine c_region ?_
     refine o_step rfl (s_move rfl) ?_
     refine o_step rfl (s_assign rfl) ?_
     refine o_nil ?_
     refine x_then (hK10 _ _ ?_)
     refine c_block ?_
     refine c_loop5 (fun (p : Nat) (out : List Bool) (S1 : Hp) (q : Sl Nat) (Sd : Hp) => (g ≤ p ∧ p ≤ w.length + 1) ∧ OwnS Ebo 1 4 (.slice (some ⟨b16, 0, none⟩) (w.length + 1) (w.length + 1)) out S1 ∧ OwnS Eix 1 3 (.slice q.a q.xs.length q.c) q.xs Sd ∧ (∀ j, j ∈ q.xs ↔ Begn m w g p j) ∧ (∀ t : Nat, out[t]? = some true ↔ t < p ∧ Hit m w g t) ∧ q.xs.length ≤ m.length ∧ out.length = w.length + 1) (fun (p : Nat) (out : List Bool) (S1 : Hp) (q : Sl Nat) (Sd : Hp) => [(9, .int .i64 p), (8, .slice q.a q.xs.length q.c)]) [(0, _), (1, _), (6, _), (7, _)] (fun (p : Nat) (out : List Bool) (S1 : Hp) (q : Sl Nat) (Sd : Hp) => S1 ++ Sd) (fun (p : Nat) (out : List Bool) (S1 : Hp) (q : Sl Nat) (Sd : Hp) => w.length + 1 - p) g _ S16 ⟨_, _, [0]⟩ S31 ⟨by omega, hS16, hS31, begn_start, fun t => ends_start, hM.1, by simp⟩ sbA sbA hzB ?_
     rintro p out S1 q Sd ⟨hgp, hO, hQ, hqs, ho, hql, hol⟩
     refine c_seq fun _ hK11 => ?_
     refine c_seq fun _ hK12 => ?_
     refine c_region ?_
     refine o_step rfl (s_move rfl) ?_
     refine o_step rfl (s_move rfl) ?_
     refine o_step rfl (s_len rfl) ?_
     by_cases hpl : p ≤ w.length
     ·
      refine o_step rfl (step_cast (v' := .bool true) (s_leq rfl rfl) (by rw [decide_eq_true (by omega)])) ?_
      refine o_step rfl (s_move rfl) ?_
      refine o_yes rfl rfl ?_
      refine o_step rfl (s_move rfl) ?_
      refine o_yes rfl rfl ?_
      refine o_step rfl (s_len rfl) ?_
      refine o_yes rfl rfl ?_
      by_cases hq0 : (q.xs.length : Int) > 0
      ·
       refine o_step rfl (step_cast (v' := .bool true) (s_gtr rfl rfl) (by rw [decide_eq_true (by omega)])) ?_
       refine o_step rfl (s_pick_t rfl rfl) ?_
       refine o_nil ?_
       refine x_then (hK12 _ _ ?_)
       refine c_true rfl ?_
       refine c_skip ?_
       refine x_then (hK11 _ _ ?_)
       refine c_seq fun _ hK13 => ?_
       refine c_block ?_
       refine c_seq fun _ hK14 => ?_
       refine c_region ?_
       refine o_step rfl (s_move rfl) ?_
       refine o_step rfl (s_len rfl) ?_
       refine o_make (E := Ebo) (zx := false) (n := m.length) rfl rfl rfl (by omega) (by omega) rfl fun b46 S46 hS46 => ?_
       refine o_step rfl (s_assign rfl) ?_
       refine o_nil ?_
       refine x_then (hK14 _ _ ?_)
       refine c_seq fun _ hK15 => ?_
       refine c_seq fun _ hK16 => ?_
       refine c_region ?_
       refine o_step rfl (s_assign rfl) ?_
       refine o_nil ?_
       refine x_then (hK16 _ _ ?_)
       refine c_block ?_
       refine c_loop3 (fun (k : Nat) (sn : List Bool) (S3 : Hp) => k ≤ q.xs.length ∧ OwnS Ebo 1 4 (.slice (some ⟨b46, 0, none⟩) m.length m.length) sn S3 ∧ SeenP m w p q.xs k sn) (fun (k : Nat) (sn : List Bool) (S3 : Hp) => [(11, .int .i64 k)]) [(0, _), (1, _), (6, _), (7, _), (8, _), (9, _), (10, _), (33, _), (34, _), (35, _), (36, _), (37, _), (38, _), (39, _), (40, _), (41, _), (44, _), (45, _), (46, _)] (fun (k : Nat) (sn : List Bool) (S3 : Hp) => S1 ++ (Sd ++ S3)) (fun (k : Nat) (sn : List Bool) (S3 : Hp) => q.xs.length - k) 0 _ S46 ⟨by omega, hS46, .start⟩ sbA sbA hzB ?_
       rintro k sn S3 ⟨hk, hN, hSe⟩
       have hsnl := hSe.1
       have hNs := hN.sl
       rw [hsnl] at hNs
       refine c_seq fun _ hK17 => ?_
       refine c_seq fun _ hK18 => ?_
       refine c_region ?_
       refine o_step rfl (s_move rfl) ?_
       refine o_step rfl (s_move rfl) ?_
       refine o_step rfl (s_len rfl) ?_
       by_cases hkq : k < q.xs.length
       ·
        obtain ⟨j, hj⟩ : ∃ j, q.xs[k]? = some j := ⟨_, List.getElem?_eq_getElem hkq⟩
        have hjm := start_lt hM ((hqs j).1 (List.mem_of_getElem? hj))
        refine o_step rfl (step_cast (v' := .bool true) (s_lss rfl rfl) (by rw [decide_eq_true (by omega)])) ?_
        refine o_nil ?_
        refine x_then (hK18 _ _ ?_)
        refine c_true rfl ?_
        refine c_skip ?_
        refine x_then (hK17 _ _ ?_)
        refine c_seq fun _ hK19 => ?_
        refine c_block ?_
        refine c_region ?_
        refine o_step rfl (s_move rfl) ?_
        refine o_step rfl (s_move rfl) ?_
        refine o_step rfl (s_move rfl) ?_
        refine o_step rfl (s_idx rfl rfl hQ.sl (by omega)) ?_
        refine o_step rfl (s_ld rfl ((hQ.rdk hiA).ld k 0 hj rfl (by decide) (by omega))) ?_
        refine o_step rfl (s_move rfl) ?_
        refine o_step rfl (s_move rfl) ?_
        refine o_step rfl (s_move rfl) ?_
        refine o_step rfl (s_len rfl) ?_
        refine o_call (reach_fn w.length p ra rc m hM j hjm (some ⟨b46, 0, none⟩) m.length sn S3 hN hSe.2.2) rfl rfl rfl pkA (fun w st => ⟨(RdK.old0 hw.1).out w st, st.apart_old hiA hw.1 (by decide)⟩) (fun v62 S62 hv62 => ?_)
        obtain ⟨s2, hN2, hr1, hr2⟩ := hv62
        refine o_nil ?_
        refine x_block ?_
        refine x_then (hK19 _ _ ?_)
        refine c_region ?_
        refine o_step rfl (s_move rfl) ?_
        refine o_step rfl (s_add rfl rfl (by omega)) ?_
        refine o_step rfl (s_assign rfl) ?_
        refine o_nil ?_
        exact x_then (x_inv ((k + 1), s2, S62) ⟨by omega, hN2, hSe.step hj (by obtain ⟨a', c', e', _⟩ := hN2.sl.out; simp at e'; exact e'.2.1.symm) hr1 hr2⟩ (by first | omega | (dsimp only; omega)) sbA hzB)
       ·
        obtain rfl : k = q.xs.length := by omega
        refine o_step rfl (step_cast (v' := .bool false) (s_lss rfl rfl) (by rw [decide_eq_false (by omega)])) ?_
        refine o_nil ?_
        refine x_then (hK18 _ _ ?_)
        refine c_false rfl ?_
        refine c_exit ?_
        refine x_then_exit ?_
        refine x_then_exit ?_
        refine x_block_exit ?_
        refine x_then (hK15 _ _ ?_)
        refine c_seq fun _ hK20 => ?_
        refine c_region ?_
        refine o_step rfl (s_assign rfl) ?_
        refine o_nil ?_
        refine x_then (hK20 _ _ ?_)
        refine c_seq fun _ hK21 => ?_
        refine c_region ?_
        refine o_step rfl (s_assign rfl) ?_
        refine o_nil ?_
        refine x_then (hK21 _ _ ?_)
        refine c_block ?_
        refine c_loop5 (fun (k : Nat) (o2 : List Bool) (S4 : Hp) (q2 : Sl Nat) (Sd2 : Hp) => k ≤ m.length ∧ OwnS Ebo 1 4 (.slice (some ⟨b16, 0, none⟩) (w.length + 1) (w.length + 1)) o2 S4 ∧ OwnS Eix 1 3 (.slice q2.a q2.xs.length q2.c) q2.xs Sd2 ∧ PassP m w p sn out k o2 q2.xs) (fun (k : Nat) (o2 : List Bool) (S4 : Hp) (q2 : Sl Nat) (Sd2 : Hp) => [(12, .int .i64 k), (8, .slice q2.a q2.xs.length q2.c)]) [(0, _), (1, _), (6, _), (7, _), (9, _), (10, _), (11, _), (33, _), (34, _), (35, _), (36, _), (37, _), (38, _), (39, _), (40, _), (41, _), (44, _), (45, _), (46, _), (47, _), (48, _), (49, _), (50, _)] (fun (k : Nat) (o2 : List Bool) (S4 : Hp) (q2 : Sl Nat) (Sd2 : Hp) => S4 ++ (S3 ++ Sd2)) (fun (k : Nat) (o2 : List Bool) (S4 : Hp) (q2 : Sl Nat) (Sd2 : Hp) => m.length - k) 0 out S1 ⟨none, 0, []⟩ [] ⟨by omega, hO, .nil, .start⟩ sbA sbA hzB ?_
        rintro k o2 S4 q2 Sd2 ⟨hk, hO2, hQ2, hP⟩
        have hO2l : o2.length = w.length + 1 := by rw [hP.len, hol]
        have hO2s := hO2.sl
        rw [hO2l] at hO2s
        have hq2l := hP.le
        refine c_seq fun _ hK22 => ?_
        refine c_seq fun _ hK23 => ?_
        refine c_region ?_
        refine o_step rfl (s_move rfl) ?_
        refine o_step rfl (s_move rfl) ?_
        refine o_step rfl (s_len rfl) ?_
        by_cases hkm : k < m.length
        ·
         obtain ⟨u, hu⟩ : ∃ u, m[k]? = some u := ⟨_, List.getElem?_eq_getElem hkm⟩
         have huo := (hM.2.2 k u hu).1.1
         refine o_step rfl (step_cast (v' := .bool true) (s_lss rfl rfl) (by rw [decide_eq_true (by omega)])) ?_
         refine o_nil ?_
         refine x_then (hK23 _ _ ?_)
         refine c_true rfl ?_
         refine c_skip ?_
         refine x_then (hK22 _ _ ?_)
         refine c_seq fun _ hK24 => ?_
         refine c_block ?_
         refine c_seq fun _ hK25 => ?_
         refine c_seq fun _ hK26 => ?_
         refine c_region ?_
         refine o_step rfl (s_move rfl) ?_
         refine o_step rfl (s_move rfl) ?_
         refine o_step rfl (s_idx rfl rfl hNs (by omega)) ?_
         by_cases hb1 : sn[k]? = some true
         ·
          refine o_step rfl (s_ld rfl ((hN.rdk hiA).ld k 0 hb1 rfl (by decide) (by omega))) ?_
          refine o_step rfl (s_not rfl) ?_
          refine o_nil ?_
          refine x_then (hK26 _ _ ?_)
          refine c_false rfl ?_
          refine c_skip ?_
          refine x_then (hK25 _ _ ?_)
          refine c_seq fun _ hK27 => ?_
          refine c_seq fun _ hK28 => ?_
          refine c_region ?_
          refine o_step rfl (s_move rfl) ?_
          refine o_step rfl (s_move rfl) ?_
          refine o_step rfl (s_idx rfl rfl hsl (by omega)) ?_
          refine o_step rfl (s_field rfl rfl (by decide)) ?_
          refine o_step rfl (s_ld rfl ((RdK.old0 hw.1).ld k 0 hu rfl (by decide) rfl)) ?_
          refine o_step rfl (s_convI rfl (by omega)) ?_
          by_cases h6 : u.op = 6
          ·
           refine o_step rfl (step_cast (v' := .bool true) (s_eql rfl rfl) (by rw [decide_eq_true (by omega)])) ?_
           refine o_nil ?_
           refine x_then (hK28 _ _ ?_)
           refine c_true rfl ?_
           refine c_region ?_
           refine o_step rfl (s_move rfl) ?_
           refine o_step rfl (s_move rfl) ?_
           refine o_step rfl (s_idx rfl rfl hO2s (by omega)) ?_
           refine o_stS1 p true hO2 pkA rfl rfl rfl (by omega) (by omega) fun S' hS' => ?_
           refine o_nil ?_
           refine x_then (hK27 _ _ ?_)
           refine c_seq fun _ hK29 => ?_
           refine c_drawE ([]) (fun i => false) ?_
           refine e_take 0 rfl (by kernel_rfl) (by kernel_rfl) (by kernel_rfl) (by kernel_rfl) (fun _ _ => rfl) rfl (by exact HSub.nil) (s_move rfl) ?_
           refine e_take 1 rfl (by kernel_rfl) (by kernel_rfl) (by kernel_rfl) (by kernel_rfl) (fun _ _ => rfl) rfl (by exact HSub.nil) (s_move rfl) ?_
           refine e_take 2 rfl (by kernel_rfl) (by kernel_rfl) (by kernel_rfl) (by kernel_rfl) (fun _ _ => rfl) rfl (by exact HSub.nil) (s_idx rfl rfl hsl (by omega)) ?_
           refine e_take 3 rfl (by kernel_rfl) (by kernel_rfl) (by kernel_rfl) (by kernel_rfl) (fun _ _ => rfl) rfl (by exact HSub.nil) (s_field rfl rfl (by decide)) ?_
           refine e_take 4 rfl (by kernel_rfl) (by kernel_rfl) (by kernel_rfl) (by kernel_rfl) (fun _ _ => rfl) rfl (by exact HSub.nil) (s_ld rfl ((RdK.old0 hw.1).ld k 0 hu rfl (by decide) (by omega))) ?_
           refine e_take 5 rfl (by kernel_rfl) (by kernel_rfl) (by kernel_rfl) (by kernel_rfl) (fun _ _ => rfl) rfl (by exact HSub.nil) (s_convI rfl (by omega)) ?_
           by_cases h1 : u.op = 1
           ·
            refine e_take 6 rfl (by kernel_rfl) (by kernel_rfl) (by kernel_rfl) (by kernel_rfl) (fun _ _ => rfl) rfl (by exact HSub.nil) (step_cast (v' := .bool true) (s_eql rfl rfl) (by rw [decide_eq_true (by omega)])) ?_
            refine e_take 7 rfl (by kernel_rfl) (by kernel_rfl) (by kernel_rfl) (by kernel_rfl) (fun _ _ => rfl) rfl (by exact HSub.nil) (s_move rfl) ?_
            refine e_take 8 rfl (by kernel_rfl) (by kernel_rfl) (by kernel_rfl) (by kernel_rfl) (fun _ fr => by rw [wanted_of fr rfl rfl rfl]; rfl) rfl (by exact HSub.nil) (s_move rfl) ?_
            refine e_take 9 rfl (by kernel_rfl) (by kernel_rfl) (by kernel_rfl) (by kernel_rfl) (fun _ fr => by rw [wanted_of fr rfl rfl rfl]; rfl) rfl (by exact HSub.nil) (s_move rfl) ?_
            refine e_take 10 rfl (by kernel_rfl) (by kernel_rfl) (by kernel_rfl) (by kernel_rfl) (fun _ fr => by rw [wanted_of fr rfl rfl rfl]; rfl) rfl (by exact HSub.nil) (s_len rfl) ?_
            by_cases hpw : p < w.length
            ·
             obtain ⟨y, hy⟩ : ∃ y, w[p]? = some y := ⟨_, List.getElem?_eq_getElem hpw⟩
             refine e_take 11 rfl (by kernel_rfl) (by kernel_rfl) (by kernel_rfl) (by kernel_rfl) (fun _ fr => by rw [wanted_of fr rfl rfl rfl]; rfl) rfl (by exact HSub.nil) (step_cast (v' := .bool true) (s_lss rfl rfl) (by rw [decide_eq_true (by omega)])) ?_
             refine e_take 12 rfl (by kernel_rfl) (by kernel_rfl) (by kernel_rfl) (by kernel_rfl) (fun _ _ => rfl) rfl (by exact HSub.nil) (s_pick_t rfl rfl) ?_
             refine e_take 13 rfl (by kernel_rfl) (by kernel_rfl) (by kernel_rfl) (by kernel_rfl) (fun _ _ => rfl) rfl (by exact HSub.nil) (s_move rfl) ?_
             refine e_take 14 rfl (by kernel_rfl) (by kernel_rfl) (by kernel_rfl) (by kernel_rfl) (fun _ fr => by rw [wanted_of fr rfl rfl rfl]; rfl) rfl (by exact HSub.nil) (s_move rfl) ?_
             refine e_take 15 rfl (by kernel_rfl) (by kernel_rfl) (by kernel_rfl) (by kernel_rfl) (fun _ fr => by rw [wanted_of fr rfl rfl rfl]; rfl) rfl (by exact HSub.nil) (s_move rfl) ?_
             refine e_take 16 rfl (by kernel_rfl) (by kernel_rfl) (by kernel_rfl) (by kernel_rfl) (fun _ fr => by rw [wanted_of fr rfl rfl rfl]; rfl) rfl (by exact HSub.nil) (s_idx rfl rfl hsl (by omega)) ?_
             refine e_take 17 rfl (by kernel_rfl) (by kernel_rfl) (by kernel_rfl) (by kernel_rfl) (fun _ fr => by rw [wanted_of fr rfl rfl rfl]; rfl) rfl (by exact HSub.nil) (s_field rfl rfl (by decide)) ?_
             refine e_take 18 rfl (by kernel_rfl) (by kernel_rfl) (by kernel_rfl) (by kernel_rfl) (fun _ fr => by rw [wanted_of fr rfl rfl rfl]; rfl) rfl (by exact HSub.nil) (s_ldB rfl (cels_set (RdK.old0 hw.1) hu (by omega)) (Ec_lenM _)) ?_
             refine e_take 19 rfl (by kernel_rfl) (by kernel_rfl) (by kernel_rfl) (by kernel_rfl) (fun _ fr => by rw [wanted_of fr rfl rfl rfl]; rfl) rfl (by exact HSub.nil) (s_move rfl) ?_
             refine e_take 20 rfl (by kernel_rfl) (by kernel_rfl) (by kernel_rfl) (by kernel_rfl) (fun _ fr => by rw [wanted_of fr rfl rfl rfl]; rfl) rfl (by exact HSub.nil) (s_move rfl) ?_
             refine e_take 21 rfl (by kernel_rfl) (by kernel_rfl) (by kernel_rfl) (by kernel_rfl) (fun _ fr => by rw [wanted_of fr rfl rfl rfl]; rfl) rfl (by exact HSub.nil) (s_idx rfl rfl hsw (by omega)) ?_
             refine e_take 22 rfl (by kernel_rfl) (by kernel_rfl) (by kernel_rfl) (by kernel_rfl) (fun _ fr => by rw [wanted_of fr rfl rfl rfl]; rfl) rfl (by exact HSub.nil) (s_ld rfl ((RdK.old0 hw.2).ld p 0 hy rfl (by decide) (by omega))) ?_
             refine e_one 23 rfl (by kernel_rfl) ?_
             refine o_yes rfl rfl ?_
             refine o_callP (rHas_fn u.set y.toNat y.toNat_lt) rfl rfl rfl (fun _ _ => trivial) (fun v107 hv107 => ?_)
             subst hv107
             cases hh : u.set.getLsbD y.toNat
             ·
              refine o_nil ?_
              refine x_oneS (by exact HSub.nil) ?_
              refine e_take 24 rfl (by kernel_rfl) (by kernel_rfl) (by kernel_rfl) (by kernel_rfl) (fun _ _ => rfl) rfl (by exact HSub.nil) (s_pick_t rfl rfl) ?_
              refine e_done (by kernel_rfl) ?_
              refine x_then (hK29 _ _ ?_)
              refine c_false rfl ?_
              refine c_skip ?_
              refine x_block ?_
              refine x_then (hK24 _ _ ?_)
              refine c_region ?_
              refine o_step rfl (s_move rfl) ?_
              refine o_step rfl (s_add rfl rfl (by omega)) ?_
              refine o_step rfl (s_assign rfl) ?_
              refine o_nil ?_
              exact x_then (x_inv ((k + 1), (o2.set p true), S', q2, Sd2) (by omega) (by first | omega | (dsimp only; omega)) sbA hzB)
             ·
              refine o_nil ?_
              refine x_oneS (by exact HSub.nil) ?_
              refine e_take 24 rfl (by kernel_rfl) (by kernel_rfl) (by kernel_rfl) (by kernel_rfl) (fun _ _ => rfl) rfl (by exact HSub.nil) (s_pick_t rfl rfl) ?_
              refine e_done (by kernel_rfl) ?_
              refine x_then (hK29 _ _ ?_)
              refine c_true rfl ?_
              refine c_region ?_
              refine o_step rfl (s_move rfl) ?_
              refine o_step rfl (s_move rfl) ?_
              refine o_step rfl (s_add rfl rfl (by omega)) ?_
              refine o_bs (E := Eix) (xs := [k + 1]) (vs := [_]) rfl rfl rfl rfl rfl (by decide) (by decide) fun b112 S112 hS112 => ?_
              refine o_app hQ2 (hS112.rdk hiA) rfl rfl rfl rfl (by simp only [List.length_cons, List.length_nil]; omega) (by simp only [List.length_cons, List.length_nil]; omega) rfl pkA fun a113 c113 S113 hS113 => ?_
              refine o_step rfl (s_assign rfl) ?_
              refine o_nil ?_
              refine x_block ?_
              refine x_then (hK24 _ _ ?_)
              refine c_region ?_
              refine o_step rfl (s_move rfl) ?_
              refine o_step rfl (s_add rfl rfl (by omega)) ?_
              refine o_step rfl (s_assign rfl) ?_
              refine o_nil ?_
              exact x_then (x_inv ((k + 1), (o2.set p true), S', ⟨a113, c113, q2.xs ++ [k + 1]⟩, S113) (by omega) (by first | omega | (dsimp only; omega)) sbA hzB)
            ·
             refine e_take 11 rfl (by kernel_rfl) (by kernel_rfl) (by kernel_rfl) (by kernel_rfl) (fun _ fr => by rw [wanted_of fr rfl rfl rfl]; rfl) rfl (by exact HSub.nil) (step_cast (v' := .bool false) (s_lss rfl rfl) (by rw [decide_eq_false (by omega)])) ?_
             refine e_take 12 rfl (by kernel_rfl) (by kernel_rfl) (by kernel_rfl) (by kernel_rfl) (fun _ _ => rfl) rfl (by exact HSub.nil) (s_pick_t rfl rfl) ?_
             refine e_take 13 rfl (by kernel_rfl) (by kernel_rfl) (by kernel_rfl) (by kernel_rfl) (fun _ _ => rfl) rfl (by exact HSub.nil) (s_move rfl) ?_
             refine e_skip 14 rfl (by kernel_rfl) (by kernel_rfl) (by kernel_rfl) rfl rfl rfl rfl ?_
             refine e_skip 15 rfl (by kernel_rfl) (by kernel_rfl) (by kernel_rfl) rfl rfl rfl rfl ?_
             refine e_skip 16 rfl (by kernel_rfl) (by kernel_rfl) (by kernel_rfl) rfl rfl rfl rfl ?_
             refine e_skip 17 rfl (by kernel_rfl) (by kernel_rfl) (by kernel_rfl) rfl rfl rfl rfl ?_
             refine e_skip 18 rfl (by kernel_rfl) (by kernel_rfl) (by kernel_rfl) rfl rfl rfl rfl ?_
             refine e_skip 19 rfl (by kernel_rfl) (by kernel_rfl) (by kernel_rfl) rfl rfl rfl rfl ?_
             refine e_skip 20 rfl (by kernel_rfl) (by kernel_rfl) (by kernel_rfl) rfl rfl rfl rfl ?_
             refine e_skip 21 rfl (by kernel_rfl) (by kernel_rfl) (by kernel_rfl) rfl rfl rfl rfl ?_
             refine e_skip 22 rfl (by kernel_rfl) (by kernel_rfl) (by kernel_rfl) rfl rfl rfl rfl ?_
             refine e_one 23 rfl (by kernel_rfl) ?_
             refine o_no rfl rfl rfl rfl ?_
             refine o_nil ?_
             refine x_oneS (by exact HSub.nil) ?_
             refine e_take 24 rfl (by kernel_rfl) (by kernel_rfl) (by kernel_rfl) (by kernel_rfl) (fun _ _ => rfl) rfl (by exact HSub.nil) (s_pick_f rfl rfl) ?_
             refine e_done (by kernel_rfl) ?_
             refine x_then (hK29 _ _ ?_)
             refine c_false rfl ?_
             refine c_skip ?_
             refine x_block ?_
             refine x_then (hK24 _ _ ?_)
             refine c_region ?_
             refine o_step rfl (s_move rfl) ?_
             refine o_step rfl (s_add rfl rfl (by omega)) ?_
             refine o_step rfl (s_assign rfl) ?_
             refine o_nil ?_
             exact x_then (x_inv ((k + 1), (o2.set p true), S', q2, Sd2) (by omega) (by first | omega | (dsimp only; omega)) sbA hzB)
           ·
            refine e_take 6 rfl (by kernel_rfl) (by kernel_rfl) (by kernel_rfl) (by kernel_rfl) (fun _ _ => rfl) rfl (by exact HSub.nil) (step_cast (v' := .bool false) (s_eql rfl rfl) (by rw [decide_eq_false (by omega)])) ?_
            refine e_take 7 rfl (by kernel_rfl) (by kernel_rfl) (by kernel_rfl) (by kernel_rfl) (fun _ _ => rfl) rfl (by exact HSub.nil) (s_move rfl) ?_
            refine e_skip 8 rfl (by kernel_rfl) (by kernel_rfl) (by kernel_rfl) rfl rfl rfl rfl ?_
            refine e_skip 9 rfl (by kernel_rfl) (by kernel_rfl) (by kernel_rfl) rfl rfl rfl rfl ?_
            refine e_skip 10 rfl (by kernel_rfl) (by kernel_rfl) (by kernel_rfl) rfl rfl rfl rfl ?_
            refine e_skip 11 rfl (by kernel_rfl) (by kernel_rfl) (by kernel_rfl) rfl rfl rfl rfl ?_
            refine e_take 12 rfl (by kernel_rfl) (by kernel_rfl) (by kernel_rfl) (by kernel_rfl) (fun _ _ => rfl) rfl (by exact HSub.nil) (s_pick_f rfl rfl) ?_
            refine e_take 13 rfl (by kernel_rfl) (by kernel_rfl) (by kernel_rfl) (by kernel_rfl) (fun _ _ => rfl) rfl (by exact HSub.nil) (s_move rfl) ?_
            refine e_skip 14 rfl (by kernel_rfl) (by kernel_rfl) (by kernel_rfl) rfl rfl rfl rfl ?_
            refine e_skip 15 rfl (by kernel_rfl) (by kernel_rfl) (by kernel_rfl) rfl rfl rfl rfl ?_
            refine e_skip 16 rfl (by kernel_rfl) (by kernel_rfl) (by kernel_rfl) rfl rfl rfl rfl ?_
            refine e_skip 17 rfl (by kernel_rfl) (by kernel_rfl) (by kernel_rfl) rfl rfl rfl rfl ?_
            refine e_skip 18 rfl (by kernel_rfl) (by kernel_rfl) (by kernel_rfl) rfl rfl rfl rfl ?_
            refine e_skip 19 rfl (by kernel_rfl) (by kernel_rfl) (by kernel_rfl) rfl rfl rfl rfl ?_
            refine e_skip 20 rfl (by kernel_rfl) (by kernel_rfl) (by kernel_rfl) rfl rfl rfl rfl ?_
            refine e_skip 21 rfl (by kernel_rfl) (by kernel_rfl) (by kernel_rfl) rfl rfl rfl rfl ?_
            refine e_skip 22 rfl (by kernel_rfl) (by kernel_rfl) (by kernel_rfl) rfl rfl rfl rfl ?_
            refine e_one 23 rfl (by kernel_rfl) ?_
            refine o_no rfl rfl rfl rfl ?_
            refine o_nil ?_
            refine x_oneS (by exact HSub.nil) ?_
            refine e_take 24 rfl (by kernel_rfl) (by kernel_rfl) (by kernel_rfl) (by kernel_rfl) (fun _ _ => rfl) rfl (by exact HSub.nil) (s_pick_f rfl rfl) ?_
            refine e_done (by kernel_rfl) ?_
            refine x_then (hK29 _ _ ?_)
            refine c_false rfl ?_
            refine c_skip ?_
            refine x_block ?_
            refine x_then (hK24 _ _ ?_)
            refine c_region ?_
            refine o_step rfl (s_move rfl) ?_
            refine o_step rfl (s_add rfl rfl (by omega)) ?_
            refine o_step rfl (s_assign rfl) ?_
            refine o_nil ?_
            exact x_then (x_inv ((k + 1), (o2.set p true), S', q2, Sd2) ⟨by omega, hS', hQ2, hP.done hb1 hu h6 (by omega)⟩ (by first | omega | (dsimp only; omega)) sbA hzB)
          ·
           refine o_step rfl (step_cast (v' := .bool false) (s_eql rfl rfl) (by rw [decide_eq_false (by omega)])) ?_
           refine o_nil ?_
           refine x_then (hK28 _ _ ?_)
           refine c_false rfl ?_
           refine c_skip ?_
           refine x_then (hK27 _ _ ?_)
           refine c_seq fun _ hK30 => ?_
           refine c_drawE ([]) (fun i => false) ?_
           refine e_take 0 rfl (by kernel_rfl) (by kernel_rfl) (by kernel_rfl) (by kernel_rfl) (fun _ _ => rfl) rfl (by exact HSub.nil) (s_move rfl) ?_
           refine e_take 1 rfl (by kernel_rfl) (by kernel_rfl) (by kernel_rfl) (by kernel_rfl) (fun _ _ => rfl) rfl (by exact HSub.nil) (s_move rfl) ?_
           refine e_take 2 rfl (by kernel_rfl) (by kernel_rfl) (by kernel_rfl) (by kernel_rfl) (fun _ _ => rfl) rfl (by exact HSub.nil) (s_idx rfl rfl hsl (by omega)) ?_
           refine e_take 3 rfl (by kernel_rfl) (by kernel_rfl) (by kernel_rfl) (by kernel_rfl) (fun _ _ => rfl) rfl (by exact HSub.nil) (s_field rfl rfl (by decide)) ?_
           refine e_take 4 rfl (by kernel_rfl) (by kernel_rfl) (by kernel_rfl) (by kernel_rfl) (fun _ _ => rfl) rfl (by exact HSub.nil) (s_ld rfl ((RdK.old0 hw.1).ld k 0 hu rfl (by decide) (by omega))) ?_
           refine e_take 5 rfl (by kernel_rfl) (by kernel_rfl) (by kernel_rfl) (by kernel_rfl) (fun _ _ => rfl) rfl (by exact HSub.nil) (s_convI rfl (by omega)) ?_
           by_cases h1 : u.op = 1
           ·
            refine e_take 6 rfl (by kernel_rfl) (by kernel_rfl) (by kernel_rfl) (by kernel_rfl) (fun _ _ => rfl) rfl (by exact HSub.nil) (step_cast (v' := .bool true) (s_eql rfl rfl) (by rw [decide_eq_true (by omega)])) ?_
            refine e_take 7 rfl (by kernel_rfl) (by kernel_rfl) (by kernel_rfl) (by kernel_rfl) (fun _ _ => rfl) rfl (by exact HSub.nil) (s_move rfl) ?_
            refine e_take 8 rfl (by kernel_rfl) (by kernel_rfl) (by kernel_rfl) (by kernel_rfl) (fun _ fr => by rw [wanted_of fr rfl rfl rfl]; rfl) rfl (by exact HSub.nil) (s_move rfl) ?_
            refine e_take 9 rfl (by kernel_rfl) (by kernel_rfl) (by kernel_rfl) (by kernel_rfl) (fun _ fr => by rw [wanted_of fr rfl rfl rfl]; rfl) rfl (by exact HSub.nil) (s_move rfl) ?_
            refine e_take 10 rfl (by kernel_rfl) (by kernel_rfl) (by kernel_rfl) (by kernel_rfl) (fun _ fr => by rw [wanted_of fr rfl rfl rfl]; rfl) rfl (by exact HSub.nil) (s_len rfl) ?_
            by_cases hpw : p < w.length
            ·
             obtain ⟨y, hy⟩ : ∃ y, w[p]? = some y := ⟨_, List.getElem?_eq_getElem hpw⟩
             refine e_take 11 rfl (by kernel_rfl) (by kernel_rfl) (by kernel_rfl) (by kernel_rfl) (fun _ fr => by rw [wanted_of fr rfl rfl rfl]; rfl) rfl (by exact HSub.nil) (step_cast (v' := .bool true) (s_lss rfl rfl) (by rw [decide_eq_true (by omega)])) ?_
             refine e_take 12 rfl (by kernel_rfl) (by kernel_rfl) (by kernel_rfl) (by kernel_rfl) (fun _ _ => rfl) rfl (by exact HSub.nil) (s_pick_t rfl rfl) ?_
             refine e_take 13 rfl (by kernel_rfl) (by kernel_rfl) (by kernel_rfl) (by kernel_rfl) (fun _ _ => rfl) rfl (by exact HSub.nil) (s_move rfl) ?_
             refine e_take 14 rfl (by kernel_rfl) (by kernel_rfl) (by kernel_rfl) (by kernel_rfl) (fun _ fr => by rw [wanted_of fr rfl rfl rfl]; rfl) rfl (by exact HSub.nil) (s_move rfl) ?_
             refine e_take 15 rfl (by kernel_rfl) (by kernel_rfl) (by kernel_rfl) (by kernel_rfl) (fun _ fr => by rw [wanted_of fr rfl rfl rfl]; rfl) rfl (by exact HSub.nil) (s_move rfl) ?_
             refine e_take 16 rfl (by kernel_rfl) (by kernel_rfl) (by kernel_rfl) (by kernel_rfl) (fun _ fr => by rw [wanted_of fr rfl rfl rfl]; rfl) rfl (by exact HSub.nil) (s_idx rfl rfl hsl (by omega)) ?_
             refine e_take 17 rfl (by kernel_rfl) (by kernel_rfl) (by kernel_rfl) (by kernel_rfl) (fun _ fr => by rw [wanted_of fr rfl rfl rfl]; rfl) rfl (by exact HSub.nil) (s_field rfl rfl (by decide)) ?_
             refine e_take 18 rfl (by kernel_rfl) (by kernel_rfl) (by kernel_rfl) (by kernel_rfl) (fun _ fr => by rw [wanted_of fr rfl rfl rfl]; rfl) rfl (by exact HSub.nil) (s_ldB rfl (cels_set (RdK.old0 hw.1) hu (by omega)) (Ec_lenM _)) ?_
             refine e_take 19 rfl (by kernel_rfl) (by kernel_rfl) (by kernel_rfl) (by kernel_rfl) (fun _ fr => by rw [wanted_of fr rfl rfl rfl]; rfl) rfl (by exact HSub.nil) (s_move rfl) ?_
             refine e_take 20 rfl (by kernel_rfl) (by kernel_rfl) (by kernel_rfl) (by kernel_rfl) (fun _ fr => by rw [wanted_of fr rfl rfl rfl]; rfl) rfl (by exact HSub.nil) (s_move rfl) ?_
             refine e_take 21 rfl (by kernel_rfl) (by kernel_rfl) (by kernel_rfl) (by kernel_rfl) (fun _ fr => by rw [wanted_of fr rfl rfl rfl]; rfl) rfl (by exact HSub.nil) (s_idx rfl rfl hsw (by omega)) ?_
             refine e_take 22 rfl (by kernel_rfl) (by kernel_rfl) (by kernel_rfl) (by kernel_rfl) (fun _ fr => by rw [wanted_of fr rfl rfl rfl]; rfl) rfl (by exact HSub.nil) (s_ld rfl ((RdK.old0 hw.2).ld p 0 hy rfl (by decide) (by omega))) ?_
             refine e_one 23 rfl (by kernel_rfl) ?_
             refine o_yes rfl rfl ?_
             refine o_callP (rHas_fn u.set y.toNat y.toNat_lt) rfl rfl rfl (fun _ _ => trivial) (fun v107 hv107 => ?_)
             subst hv107
             cases hh : u.set.getLsbD y.toNat
             ·
              refine o_nil ?_
              refine x_oneS (by exact HSub.nil) ?_
              refine e_take 24 rfl (by kernel_rfl) (by kernel_rfl) (by kernel_rfl) (by kernel_rfl) (fun _ _ => rfl) rfl (by exact HSub.nil) (s_pick_t rfl rfl) ?_
              refine e_done (by kernel_rfl) ?_
              refine x_then (hK30 _ _ ?_)
              refine c_false rfl ?_
              refine c_skip ?_
              refine x_block ?_
              refine x_then (hK24 _ _ ?_)
              refine c_region ?_
              refine o_step rfl (s_move rfl) ?_
              refine o_step rfl (s_add rfl rfl (by omega)) ?_
              refine o_step rfl (s_assign rfl) ?_
              refine o_nil ?_
              exact x_then (x_inv ((k + 1), o2, S4, q2, Sd2) ⟨by omega, hO2, hQ2, hP.skip fun _ => ⟨(fun h => by rw [(eat_iff hu h1 hy).1 h] at hh; cases hh), skip6 hu h6⟩⟩ (by first | omega | (dsimp only; omega)) sbA hzB)
             ·
              refine o_nil ?_
              refine x_oneS (by exact HSub.nil) ?_
              refine e_take 24 rfl (by kernel_rfl) (by kernel_rfl) (by kernel_rfl) (by kernel_rfl) (fun _ _ => rfl) rfl (by exact HSub.nil) (s_pick_t rfl rfl) ?_
              refine e_done (by kernel_rfl) ?_
              refine x_then (hK30 _ _ ?_)
              refine c_true rfl ?_
              refine c_region ?_
              refine o_step rfl (s_move rfl) ?_
              refine o_step rfl (s_move rfl) ?_
              refine o_step rfl (s_add rfl rfl (by omega)) ?_
              refine o_bs (E := Eix) (xs := [k + 1]) (vs := [_]) rfl rfl rfl rfl rfl (by decide) (by decide) fun b112 S112 hS112 => ?_
              refine o_app hQ2 (hS112.rdk hiA) rfl rfl rfl rfl (by simp only [List.length_cons, List.length_nil]; omega) (by simp only [List.length_cons, List.length_nil]; omega) rfl pkA fun a113 c113 S113 hS113 => ?_
              refine o_step rfl (s_assign rfl) ?_
              refine o_nil ?_
              refine x_block ?_
              refine x_then (hK24 _ _ ?_)
              refine c_region ?_
              refine o_step rfl (s_move rfl) ?_
              refine o_step rfl (s_add rfl rfl (by omega)) ?_
              refine o_step rfl (s_assign rfl) ?_
              refine o_nil ?_
              exact x_then (x_inv ((k + 1), o2, S4, ⟨a113, c113, q2.xs ++ [k + 1]⟩, S113) ⟨by omega, hO2, hS113, hP.eat hb1 ((eat_iff hu h1 hy).2 hh)⟩ (by first | omega | (dsimp only; omega)) sbA hzB)
            ·
             refine e_take 11 rfl (by kernel_rfl) (by kernel_rfl) (by kernel_rfl) (by kernel_rfl) (fun _ fr => by rw [wanted_of fr rfl rfl rfl]; rfl) rfl (by exact HSub.nil) (step_cast (v' := .bool false) (s_lss rfl rfl) (by rw [decide_eq_false (by omega)])) ?_
             refine e_take 12 rfl (by kernel_rfl) (by kernel_rfl) (by kernel_rfl) (by kernel_rfl) (fun _ _ => rfl) rfl (by exact HSub.nil) (s_pick_t rfl rfl) ?_
             refine e_take 13 rfl (by kernel_rfl) (by kernel_rfl) (by kernel_rfl) (by kernel_rfl) (fun _ _ => rfl) rfl (by exact HSub.nil) (s_move rfl) ?_
             refine e_skip 14 rfl (by kernel_rfl) (by kernel_rfl) (by kernel_rfl) rfl rfl rfl rfl ?_
             refine e_skip 15 rfl (by kernel_rfl) (by kernel_rfl) (by kernel_rfl) rfl rfl rfl rfl ?_
             refine e_skip 16 rfl (by kernel_rfl) (by kernel_rfl) (by kernel_rfl) rfl rfl rfl rfl ?_
             refine e_skip 17 rfl (by kernel_rfl) (by kernel_rfl) (by kernel_rfl) rfl rfl rfl rfl ?_
             refine e_skip 18 rfl (by kernel_rfl) (by kernel_rfl) (by kernel_rfl) rfl rfl rfl rfl ?_
             refine e_skip 19 rfl (by kernel_rfl) (by kernel_rfl) (by kernel_rfl) rfl rfl rfl rfl ?_
             refine e_skip 20 rfl (by kernel_rfl) (by kernel_rfl) (by kernel_rfl) rfl rfl rfl rfl ?_
             refine e_skip 21 rfl (by kernel_rfl) (by kernel_rfl) (by kernel_rfl) rfl rfl rfl rfl ?_
             refine e_skip 22 rfl (by kernel_rfl) (by kernel_rfl) (by kernel_rfl) rfl rfl rfl rfl ?_
             refine e_one 23 rfl (by kernel_rfl) ?_
             refine o_no rfl rfl rfl rfl ?_
             refine o_nil ?_
             refine x_oneS (by exact HSub.nil) ?_
             refine e_take 24 rfl (by kernel_rfl) (by kernel_rfl) (by kernel_rfl) (by kernel_rfl) (fun _ _ => rfl) rfl (by exact HSub.nil) (s_pick_f rfl rfl) ?_
             refine e_done (by kernel_rfl) ?_
             refine x_then (hK30 _ _ ?_)
             refine c_false rfl ?_
             refine c_skip ?_
             refine x_block ?_
             refine x_then (hK24 _ _ ?_)
             refine c_region ?_
             refine o_step rfl (s_move rfl) ?_
             refine o_step rfl (s_add rfl rfl (by omega)) ?_
             refine o_step rfl (s_assign rfl) ?_
             refine o_nil ?_
             exact x_then (x_inv ((k + 1), o2, S4, q2, Sd2) ⟨by omega, hO2, hQ2, hP.skip fun _ => ⟨eat_noP hpw, skip6 hu h6⟩⟩ (by first | omega | (dsimp only; omega)) sbA hzB)
           ·
            refine e_take 6 rfl (by kernel_rfl) (by kernel_rfl) (by kernel_rfl) (by kernel_rfl) (fun _ _ => rfl) rfl (by exact HSub.nil) (step_cast (v' := .bool false) (s_eql rfl rfl) (by rw [decide_eq_false (by omega)])) ?_
            refine e_take 7 rfl (by kernel_rfl) (by kernel_rfl) (by kernel_rfl) (by kernel_rfl) (fun _ _ => rfl) rfl (by exact HSub.nil) (s_move rfl) ?_
            refine e_skip 8 rfl (by kernel_rfl) (by kernel_rfl) (by kernel_rfl) rfl rfl rfl rfl ?_
            refine e_skip 9 rfl (by kernel_rfl) (by kernel_rfl) (by kernel_rfl) rfl rfl rfl rfl ?_
            refine e_skip 10 rfl (by kernel_rfl) (by kernel_rfl) (by kernel_rfl) rfl rfl rfl rfl ?_
            refine e_skip 11 rfl (by kernel_rfl) (by kernel_rfl) (by kernel_rfl) rfl rfl rfl rfl ?_
            refine e_take 12 rfl (by kernel_rfl) (by kernel_rfl) (by kernel_rfl) (by kernel_rfl) (fun _ _ => rfl) rfl (by exact HSub.nil) (s_pick_f rfl rfl) ?_
            refine e_take 13 rfl (by kernel_rfl) (by kernel_rfl) (by kernel_rfl) (by kernel_rfl) (fun _ _ => rfl) rfl (by exact HSub.nil) (s_move rfl) ?_
            refine e_skip 14 rfl (by kernel_rfl) (by kernel_rfl) (by kernel_rfl) rfl rfl rfl rfl ?_
            refine e_skip 15 rfl (by kernel_rfl) (by kernel_rfl) (by kernel_rfl) rfl rfl rfl rfl ?_
            refine e_skip 16 rfl (by kernel_rfl) (by kernel_rfl) (by kernel_rfl) rfl rfl rfl rfl ?_
            refine e_skip 17 rfl (by kernel_rfl) (by kernel_rfl) (by kernel_rfl) rfl rfl rfl rfl ?_
            refine e_skip 18 rfl (by kernel_rfl) (by kernel_rfl) (by kernel_rfl) rfl rfl rfl rfl ?_
            refine e_skip 19 rfl (by kernel_rfl) (by kernel_rfl) (by kernel_rfl) rfl rfl rfl rfl ?_
            refine e_skip 20 rfl (by kernel_rfl) (by kernel_rfl) (by kernel_rfl) rfl rfl rfl rfl ?_
            refine e_skip 21 rfl (by kernel_rfl) (by kernel_rfl) (by kernel_rfl) rfl rfl rfl rfl ?_
            refine e_skip 22 rfl (by kernel_rfl) (by kernel_rfl) (by kernel_rfl) rfl rfl rfl rfl ?_
            refine e_one 23 rfl (by kernel_rfl) ?_
            refine o_no rfl rfl rfl rfl ?_
            refine o_nil ?_
            refine x_oneS (by exact HSub.nil) ?_
            refine e_take 24 rfl (by kernel_rfl) (by kernel_rfl) (by kernel_rfl) (by kernel_rfl) (fun _ _ => rfl) rfl (by exact HSub.nil) (s_pick_f rfl rfl) ?_
            refine e_done (by kernel_rfl) ?_
            refine x_then (hK30 _ _ ?_)
            refine c_false rfl ?_
            refine c_skip ?_
            refine x_block ?_
            refine x_then (hK24 _ _ ?_)
            refine c_region ?_
            refine o_step rfl (s_move rfl) ?_
            refine o_step rfl (s_add rfl rfl (by omega)) ?_
            refine o_step rfl (s_assign rfl) ?_
            refine o_nil ?_
            exact x_then (x_inv ((k + 1), o2, S4, q2, Sd2) ⟨by omega, hO2, hQ2, hP.skip fun _ => ⟨eat_no1 hu h1, skip6 hu h6⟩⟩ (by first | omega | (dsimp only; omega)) sbA hzB)
         ·
          have hb2 := get_false hb1 (by omega)
          refine o_step rfl (s_ld rfl ((hN.rdk hiA).ld k 0 hb2 rfl (by decide) (by omega))) ?_
          refine o_step rfl (s_not rfl) ?_
          refine o_nil ?_
          refine x_then (hK26 _ _ ?_)
          refine c_true rfl ?_
          refine c_exit ?_
          refine x_then_exit ?_
          refine x_block_exit ?_
          refine x_then (hK24 _ _ ?_)
          refine c_region ?_
          refine o_step rfl (s_move rfl) ?_
          refine o_step rfl (s_add rfl rfl (by omega)) ?_
          refine o_step rfl (s_assign rfl) ?_
          refine o_nil ?_
          exact x_then (x_inv ((k + 1), o2, S4, q2, Sd2) ⟨by omega, hO2, hQ2, hP.skip fun h => absurd h hb1⟩ (by first | omega | (dsimp only; omega)) sbA hzB)
        ·
         obtain rfl : k = m.length := by omega
         refine o_step rfl (step_cast (v' := .bool false) (s_lss rfl rfl) (by rw [decide_eq_false (by omega)])) ?_
         refine o_nil ?_
         refine x_then (hK23 _ _ ?_)
         refine c_false rfl ?_
         refine c_exit ?_
         refine x_then_exit ?_
         refine x_then_exit ?_
         refine x_block_exit ?_
         refine x_block ?_
         refine x_then (hK13 _ _ ?_)
         refine c_region ?_
         refine o_step rfl (s_move rfl) ?_
         refine o_step rfl (s_add rfl rfl (by omega)) ?_
         refine o_step rfl (s_assign rfl) ?_
         refine o_nil ?_
         exact x_then (x_inv ((p + 1), o2, S4, q2, Sd2) ⟨by omega, hO2, hQ2, hP.next hgp.1 hqs hSe, hP.hits hgp.1 hqs hSe ho, hP.le, by rw [hP.len, hol]⟩ (by first | omega | (dsimp only; omega)) sbA hzB)
      ·
       refine o_step rfl (step_cast (v' := .bool false) (s_gtr rfl rfl) (by rw [decide_eq_false (by omega)])) ?_
       refine o_step rfl (s_pick_t rfl rfl) ?_
       refine o_nil ?_
       refine x_then (hK12 _ _ ?_)
       refine c_false rfl ?_
       refine c_exit ?_
       refine x_then_exit ?_
       refine x_then_exit ?_
       refine x_block_exit ?_
       refine x_then (hK9 _ _ ?_)
       refine c_seq fun _ hK31 => ?_
       refine c_region ?_
       refine o_step rfl (s_move rfl) ?_
       refine o_step rfl (s_assign rfl) ?_
       refine o_nil ?_
       refine x_then (hK31 _ _ ?_)
       refine c_ret ?_
       refine ?_
       refine x_sub (Sub.refl _) (H' := S1) hzB ?_
       exact x_ret rfl (.tmp rfl (.nil)) ((.of hO (.yes hM (by omega) hol fun t => (ho t).trans (ends_end hgp.1 (by omega) hgp.2 (.inr (begn_nil hqs hq0))))))
     ·
      refine o_step rfl (step_cast (v' := .bool false) (s_leq rfl rfl) (by rw [decide_eq_false (by omega)])) ?_
      refine o_step rfl (s_move rfl) ?_
      refine o_no rfl rfl rfl rfl ?_
      refine o_no rfl rfl rfl rfl ?_
      refine o_no rfl rfl rfl rfl ?_
      refine o_step rfl (s_pick_f rfl rfl) ?_
      refine o_nil ?_
      refine x_then (hK12 _ _ ?_)
      refine c_false rfl ?_
      refine c_exit ?_
      refine x_then_exit ?_
      refine x_then_exit ?_
      refine x_block_exit ?_
      refine x_then (hK9 _ _ ?_)
      refine c_seq fun _ hK32 => ?_
      refine c_region ?_
      refine o_step rfl (s_move rfl) ?_
      refine o_step rfl (s_assign rfl) ?_
      refine o_nil ?_
      refine x_then (hK32 _ _ ?_)
      refine c_ret ?_
      refine ?_
      refine x_sub (Sub.refl _) (H' := S1) hzB ?_
      exact x_ret rfl (.tmp rfl (.nil)) ((.of hO (.yes hM (by omega) hol fun t => (ho t).trans (ends_end hgp.1 (by omega) hgp.2 (.inl (by omega))))))
end Go.Proofs.YtihbhlgognpmmaaDoor

/- Part of the proofs over this seat: see the text that holds the theorem. Conditions: each theorem bears its own. -/
namespace Go.Proofs.YtihbhlgognpmmaaDoor
open Go Go.HL Go.Proofs Go.HL.Kl Go.HL.Kl.Mc
set_option maxHeartbeats 1000000 in
theorem works_fn  : HL.Fn Tryd.prog 4 [] (fun _ => True) [] (fun v _ => v = .bool true) := by
  refine fn_of Tryd.func4 rfl rfl rfl fun w0 hw => ?_
  refine c_seq fun _ hK1 => ?_
  refine c_region ?_
  refine o_step rfl (s_assign rfl) ?_
  refine o_nil ?_
  refine x_then (hK1 _ _ ?_)
  refine c_seq fun _ hK2 => ?_
  refine c_region ?_
  refine o_step rfl (step_cast (v' := .agg (En starN).toArray) (s_build (cs := [_, _, _, _, _, _, _, _, _]) (vs := [_, _, _]) rfl rfl (.cons rfl rfl rfl rfl rfl (.cons rfl rfl rfl rfl rfl (.cons rfl rfl rfl rfl rfl .nil)))) (by rw [En_star])) ?_
  refine o_callP (letter_fn 97) rfl rfl rfl (fun _ _ => trivial) (fun v6 hv6 => ?_)
  subst hv6
  refine o_bs (E := En) (xs := [starN, letN 97]) (vs := [_, _]) rfl rfl rfl rfl rfl (by decide) (by decide) fun b7 S7 hS7 => ?_
  refine o_call (compile_fn (some ⟨b7, 0, none⟩) 2 reW reW_rng) rfl rfl rfl (by exact .nil) (fun w st => (hS7.rdk hiA).out w st) (fun v8 S8 hv8 => ?_)
  obtain ⟨am, rfl, hm⟩ := compW hv8
  refine o_step rfl (s_move rfl) ?_
  refine o_step rfl (s_extract rfl rfl) ?_
  refine o_step rfl (s_extract rfl rfl) ?_
  refine o_step rfl (s_assign rfl) ?_
  refine o_step rfl (s_assign rfl) ?_
  refine o_nil ?_
  refine x_then (hK2 _ _ ?_)
  refine c_seq fun _ hK3 => ?_
  refine c_seq fun _ hK4 => ?_
  refine c_region ?_
  refine o_step rfl (s_move rfl) ?_
  refine o_step rfl (s_neq_f rfl rfl (by decide)) ?_
  refine o_step rfl (s_move rfl) ?_
  refine o_yes rfl rfl ?_
  refine o_step rfl (s_move rfl) ?_
  refine o_yes rfl rfl ?_
  refine o_callP (mShaped_fn am mW.length mW) rfl rfl rfl (fun w st => (hm.rdk hiA).out w st) (fun v15 hv15 => ?_)
  rw [mokB_iff.2 mokW] at hv15
  subst hv15
  refine o_yes rfl rfl ?_
  refine o_step rfl (s_not rfl) ?_
  refine o_step rfl (s_pick_f rfl rfl) ?_
  refine o_step rfl (s_move rfl) ?_
  refine o_yes rfl rfl ?_
  refine o_step rfl (s_move rfl) ?_
  refine o_yes rfl rfl ?_
  refine o_callP (rMShaped_fn am mW.length mW mokW.rng) rfl rfl rfl (fun w st => (hm.rdk hiA).out w st) (fun v20 hv20 => ?_)
  rw [mokB_iff.2 mokW] at hv20
  subst hv20
  refine o_yes rfl rfl ?_
  refine o_step rfl (s_not rfl) ?_
  refine o_step rfl (s_pick_f rfl rfl) ?_
  refine o_nil ?_
  refine x_then (hK4 _ _ ?_)
  refine c_false rfl ?_
  refine c_skip ?_
  refine x_then (hK3 _ _ ?_)
  refine c_seq fun _ hK5 => ?_
  refine c_region ?_
  refine o_step rfl (s_move rfl) ?_
  refine o_bs (E := Eb) (xs := [97, 97, 98]) (vs := [_, _, _]) rfl rfl rfl rfl rfl (by decide) (by decide) fun b24 S24 hS24 => ?_
  refine o_conv_same rfl hS24 pkA rfl fun S25 hS25 => ?_
  refine o_call (ends_fn am mW.length mW mokW.rng (some ⟨b24, 0, none⟩) 3 wW (by decide) 0) rfl rfl rfl (by exact .nil) (fun w st => ⟨(hm.rdk hiA).out w st, (hS25.rdk hiA).out w st⟩) (fun v26 S26 ⟨ae, ce, out, hv26, hE, hP⟩ => ?_)
  subst hv26
  obtain ⟨e0, e1, e2, e3⟩ := endsW hP
  have hEs := hE.sl
  rw [hP.1] at hEs
  refine o_step rfl (s_assign rfl) ?_
  refine o_nil ?_
  refine x_then (hK5 _ _ ?_)
  refine c_seq fun _ hK6 => ?_
  refine c_region ?_
  refine o_step rfl (s_move rfl) ?_
  refine o_step rfl (s_idx rfl rfl hEs (by decide)) ?_
  refine o_step rfl (step_cast (v' := .bool true) (s_ld rfl ((hE.rdk hiA).ld 0 0 e0 rfl (by decide) rfl)) rfl) ?_
  refine o_step rfl (s_move rfl) ?_
  refine o_yes rfl rfl ?_
  refine o_step rfl (s_move rfl) ?_
  refine o_yes rfl rfl ?_
  refine o_step rfl (s_idx rfl rfl hEs (by decide)) ?_
  refine o_yes rfl rfl ?_
  refine o_step rfl (step_cast (v' := .bool true) (s_ld rfl ((hE.rdk hiA).ld 1 0 e1 rfl (by decide) rfl)) rfl) ?_
  refine o_step rfl (s_pick_t rfl rfl) ?_
  refine o_step rfl (s_move rfl) ?_
  refine o_yes rfl rfl ?_
  refine o_step rfl (s_move rfl) ?_
  refine o_yes rfl rfl ?_
  refine o_step rfl (s_idx rfl rfl hEs (by decide)) ?_
  refine o_yes rfl rfl ?_
  refine o_step rfl (step_cast (v' := .bool true) (s_ld rfl ((hE.rdk hiA).ld 2 0 e2 rfl (by decide) rfl)) rfl) ?_
  refine o_step rfl (s_pick_t rfl rfl) ?_
  refine o_step rfl (s_move rfl) ?_
  refine o_yes rfl rfl ?_
  refine o_step rfl (s_move rfl) ?_
  refine o_yes rfl rfl ?_
  refine o_step rfl (s_idx rfl rfl hEs (by decide)) ?_
  refine o_yes rfl rfl ?_
  refine o_step rfl (step_cast (v' := .bool false) (s_ld rfl ((hE.rdk hiA).ld 3 0 e3 rfl (by decide) rfl)) rfl) ?_
  refine o_yes rfl rfl ?_
  refine o_step rfl (s_not rfl) ?_
  refine o_step rfl (s_pick_t rfl rfl) ?_
  refine o_step rfl (s_assign rfl) ?_
  refine o_nil ?_
  refine x_then (hK6 _ _ ?_)
  refine c_ret ?_
  refine ?_
  exact x_ret rfl (.tmp rfl (.nil)) (rfl)
end Go.Proofs.YtihbhlgognpmmaaDoor
