/- Part of the proofs over this seat: see the text that holds the theorem. Conditions: each theorem bears its own. -/
import Derived.Test.YtmpeokbongnniaaMQ2Z
import Derived.Test.YtmpeokbongnniaaYZN5Z
namespace Go.Proofs.Ytmpeokbongnniaa
open Go Go.HL Go.Proofs Go.HL.Kl Go.HL.Kl.Mc Go.HL.Kl.Mc.AskE
theorem ex_t {w : List UInt8} {L : List Sp} {p : Pc} (h : p.g = -1) : exA w L p.abs = p.t.xs := by rw [exA, if_pos (show p.abs.1 = -1 from h)]; rfl
theorem ex_n {w : List UInt8} {L : List Sp} {p : Pc} (h : ¬ p.g = -1) (h2 : p.g < 0 ∨ (L.length : Int) ≤ p.g) : exA w L p.abs = [] := by rw [exA, if_neg (show ¬ p.abs.1 = -1 from h), if_pos (show p.abs.1 < 0 ∨ (L.length : Int) ≤ p.abs.1 from h2)]
theorem ex_s {w : List UInt8} {L : List Sp} {p : Pc} {s : Sp} (h : ¬ p.g < 0) (h2 : p.g < L.length) (hs : L[p.g.toNat]? = some s) : exA w L p.abs = cutW w s := by
  have e : p.abs.1 = p.g := rfl
  rw [exA, if_neg (by omega), if_neg (by omega), e, List.getD_eq_getElem?_getD, hs]; rfl
theorem eqSpans_true (a a2 : Option Addr) (c c2 : Nat) (xs ys : List Sp) (h : xs = ys) : HL.Fn Try.prog 32 [.slice a xs.length c, .slice a2 ys.length c2] (fun w => Rd Esp w (.slice a xs.length c) xs ∧ Rd Esp w (.slice a2 ys.length c2) ys) [] (fun v _ => v = .bool true) :=
  (eqSpans_fn a a2 c c2 xs ys).weaken (fun _ h => h) fun v S' hv => by rw [hv, decide_eq_true h]
theorem cut_y {w : List UInt8} {s : Sp} (h : 0 ≤ s.fr ∧ s.fr ≤ s.to ∧ s.to ≤ w.length) : cutW w s = (w.drop s.fr.toNat).take (s.to.toNat - s.fr.toNat) := if_pos h
theorem cut_n {w : List UInt8} {s : Sp} (h : ¬ (0 ≤ s.fr ∧ s.fr ≤ s.to ∧ s.to ≤ w.length)) : cutW w s = [] := if_neg h
set_option maxHeartbeats 1000000 in
theorem expand_fn (a : Option Addr) (c : Nat) (ps : List Pc) (xa : Option Addr) (xc : Nat) (w : List UInt8) (la : Option Addr) (lc : Nat) (L : List Sp) (hb : (expd w (ps.map Pc.abs) L).length ≤ 4294967296) : HL.Fn Try.prog 18 [.slice a ps.length c, .slice xa w.length xc, .slice la L.length lc] (fun W => (Rd Epc W (.slice a ps.length c) ps ∧ ∀ p ∈ ps, Rd Eb W p.t.v p.t.xs) ∧ Rd Eb W (.slice xa w.length xc) w ∧ Rd Esp W (.slice la L.length lc) L) [] (fun v S' => ∃ a' c', v = .slice a' (expd w (ps.map Pc.abs) L).length c' ∧ OwnS Eb 1 5 (.slice a' (expd w (ps.map Pc.abs) L).length c') (expd w (ps.map Pc.abs) L) S') := by
  refine fn_of Try.func18 rfl rfl rfl fun w0 hw => ?_
  obtain ⟨⟨h1, h1t⟩, h2, h3⟩ := hw
  have hs1 := h1.sl
  have hs2 := h2.sl
  have hs3 := h3.sl
  have hc2 := hs2.cap
  have hb1 := hs1.le
  have hb3 := hs3.le
  refine c_seq fun _ hK1 => ?_; refine c_region ?_; refine o_step rfl (s_assign rfl) ?_; refine o_nil ?_; refine x_then (hK1 _ _ ?_); refine c_seq fun _ hK2 => ?_; refine c_region ?_; refine o_step rfl (s_assign rfl) ?_; refine o_nil ?_; refine x_then (hK2 _ _ ?_); refine c_seq fun _ hK3 => ?_; refine c_seq fun _ hK4 => ?_; refine c_region ?_; refine o_step rfl (s_move rfl) ?_; refine o_step rfl (s_len rfl) ?_; refine o_step rfl (s_move rfl) ?_; refine o_nil ?_; refine x_then (hK4 _ _ ?_); refine c_block ?_; refine c_loop5 (fun (j : Nat) (a2 : Option Addr) (c2 : Nat) (o : List UInt8) (S : Hp) => j ≤ ps.length ∧ o = (expd w ((ps.map Pc.abs).take j) L) ∧ OwnS Eb 1 5 (.slice a2 o.length c2) o S) (fun (j : Nat) (a2 : Option Addr) (c2 : Nat) (o : List UInt8) (S : Hp) => [(13, .int .i64 j), (7, .slice a2 o.length c2)]) [(1, _), (2, _), (6, _), (11, _), (12, _)] (fun (j : Nat) (a2 : Option Addr) (c2 : Nat) (o : List UInt8) (S : Hp) => S) (fun (j : Nat) (a2 : Option Addr) (c2 : Nat) (o : List UInt8) (S : Hp) => ps.length - j) 0 none 0 [] [] ⟨Nat.zero_le _, rfl, .nil⟩ sbA sbA (by exact HSub.nil) ?_
  rintro j a2 c2 o S ⟨hj, ho, hS⟩
  refine c_seq fun _ hK5 => ?_; refine c_region ?_; refine o_step rfl (s_lss rfl rfl) ?_; refine o_nil ?_; refine x_then (hK5 _ _ ?_); refine c_seq fun _ hK6 => ?_; refine c_if rfl (fun hlt => ?_) (fun hlt => ?_)
  ·
   obtain ⟨p, hp⟩ : ∃ p, ps[j]? = some p := ⟨_, List.getElem?_eq_getElem (by omega)⟩
   have hpm := List.mem_of_getElem? hp
   have hpa : (ps.map Pc.abs)[j]? = some p.abs := by rw [List.getElem?_map, hp]; rfl
   have hmo := expd_mono (w := w) (L := L) (ps := ps.map Pc.abs) (j + 1)
   rw [expd_take hpa, List.length_append, ← ho] at hmo
   refine c_skip ?_; refine x_then (hK6 _ _ ?_); refine c_seq fun _ hK7 => ?_; refine c_block ?_; refine c_seq fun _ hK8 => ?_; refine c_region ?_; refine o_step rfl (s_idx rfl rfl hs1 (by omega)) ?_; refine o_step rfl (s_ldB rfl ((RdK.old0 h1).lds j hp rfl) (by rfl)) ?_; refine o_alloc (l := Epc ⟨0, ⟨none, 0, []⟩⟩) rfl rfl fun b9 => ?_; refine o_stW rfl rfl upA lnA lnA onA ?_; refine o_nil ?_; refine x_then (hK8 _ _ ?_); refine c_seq fun _ hK9 => ?_; refine c_seq fun _ hK10 => ?_; refine c_region ?_; refine o_step rfl (s_field rfl rfl (by decide)) ?_; refine o_step rfl (s_ld rfl (.own meA rfl)) ?_; refine o_step rfl (s_eql rfl rfl) ?_; refine o_nil ?_; refine x_then (hK10 _ _ ?_); refine c_if rfl (fun hg => ?_) (fun hg => ?_)
   ·
    rw [ex_t hg] at hmo
    refine c_seq fun _ hK11 => ?_; refine c_region ?_; refine o_step rfl (s_move rfl) ?_; refine o_step rfl (s_field rfl rfl (by decide)) ?_; refine o_step rfl (s_ld rfl (.own meA rfl)) ?_; refine o_app hS (RdK.old0 (h1t p hpm)) rfl rfl rfl rfl (by omega) (by omega) rfl pkA fun a23 c23 S23 hS23 => ?_; refine o_step rfl (s_assign rfl) ?_; refine o_nil ?_; refine x_then (hK11 _ _ ?_); refine c_exit ?_; refine x_then_exit ?_; refine x_block_exit ?_; refine x_then (hK7 _ _ ?_); refine c_region ?_; refine o_step rfl (s_add rfl rfl (by omega)) ?_; refine o_step rfl (s_move rfl) ?_; refine o_nil ?_; exact x_then (x_inv (j + 1, a23, c23, o ++ p.t.xs, S23) ⟨by dsimp only; omega, by rw [expd_take hpa, ex_t hg, ← ho], hS23⟩ (by first | omega | (dsimp only; omega)) sbA hzB)
   ·
    refine c_skip ?_; refine x_then (hK9 _ _ ?_); refine c_seq fun _ hK12 => ?_; refine c_seq fun _ hK13 => ?_; refine c_region ?_; refine o_step rfl (s_field rfl rfl (by decide)) ?_; refine o_step rfl (s_ld rfl (.own meA rfl)) ?_
    by_cases hg0 : p.g < 0
    ·
     refine o_step rfl (step_cast (v' := .bool true) (s_lss rfl rfl) (by rw [decide_eq_true (by omega)])) ?_; refine o_step rfl (s_move rfl) ?_; refine o_no rfl rfl rfl rfl ?_; refine o_no rfl rfl rfl rfl ?_; refine o_no rfl rfl rfl rfl ?_; refine o_no rfl rfl rfl rfl ?_; refine o_no rfl rfl rfl rfl ?_; refine o_step rfl (s_pick_t rfl rfl) ?_; refine o_nil ?_; refine x_then (hK13 _ _ ?_); refine c_true rfl ?_; refine c_exit ?_; refine x_then_exit ?_; refine x_block_exit ?_; refine x_then (hK7 _ _ ?_); refine c_region ?_; refine o_step rfl (s_add rfl rfl (by omega)) ?_; refine o_step rfl (s_move rfl) ?_; refine o_nil ?_; exact x_then (x_inv (j + 1, a2, c2, o, S) ⟨by dsimp only; omega, by rw [expd_take hpa, ex_n hg (.inl hg0), List.append_nil]; exact ho, hS⟩ (by first | omega | (dsimp only; omega)) sbA hzB)
    ·
     refine o_step rfl (step_cast (v' := .bool false) (s_lss rfl rfl) (by rw [decide_eq_false (by omega)])) ?_; refine o_step rfl (s_move rfl) ?_; refine o_yes rfl rfl ?_; refine o_step rfl (s_field rfl rfl (by decide)) ?_; refine o_yes rfl rfl ?_; refine o_step rfl (s_ld rfl (.own meA rfl)) ?_; refine o_yes rfl rfl ?_; refine o_step rfl (s_move rfl) ?_; refine o_yes rfl rfl ?_; refine o_step rfl (s_len rfl) ?_; refine o_yes rfl rfl ?_
     by_cases hgg : (L.length : Int) ≤ p.g
     ·
      refine o_step rfl (step_cast (v' := .bool true) (s_geq rfl rfl) (by rw [decide_eq_true (by omega)])) ?_; refine o_step rfl (s_pick_f rfl rfl) ?_; refine o_nil ?_; refine x_then (hK13 _ _ ?_); refine c_true rfl ?_; refine c_exit ?_; refine x_then_exit ?_; refine x_block_exit ?_; refine x_then (hK7 _ _ ?_); refine c_region ?_; refine o_step rfl (s_add rfl rfl (by omega)) ?_; refine o_step rfl (s_move rfl) ?_; refine o_nil ?_; exact x_then (x_inv (j + 1, a2, c2, o, S) ⟨by dsimp only; omega, by rw [expd_take hpa, ex_n hg (.inr (by omega)), List.append_nil]; exact ho, hS⟩ (by first | omega | (dsimp only; omega)) sbA hzB)
     ·
      have hgl : p.g < L.length := by omega
      obtain ⟨s, hs⟩ : ∃ s, L[p.g.toNat]? = some s := ⟨_, List.getElem?_eq_getElem (by omega)⟩
      rw [ex_s hg0 hgl hs] at hmo
      refine o_step rfl (step_cast (v' := .bool false) (s_geq rfl rfl) (by rw [decide_eq_false (by omega)])) ?_; refine o_step rfl (s_pick_f rfl rfl) ?_; refine o_nil ?_; refine x_then (hK13 _ _ ?_); refine c_false rfl ?_; refine c_skip ?_; refine x_then (hK12 _ _ ?_); refine c_seq fun _ hK14 => ?_; refine c_region ?_; refine o_step rfl (s_move rfl) ?_; refine o_step rfl (s_field rfl rfl (by decide)) ?_; refine o_step rfl (s_ld rfl (.own meA rfl)) ?_; refine o_step rfl (s_idx rfl rfl hs3 (by omega)) ?_; refine o_step rfl (s_ldB rfl ((RdK.old0 h3).lds p.g.toNat hs (by omega)) (by rfl)) ?_; refine o_alloc (l := Esp ⟨0, 0⟩) rfl rfl fun b10 => ?_; refine o_stW rfl rfl upA lnA lnA onA ?_; refine o_nil ?_; refine x_then (hK14 _ _ ?_); refine c_seq fun _ hK15 => ?_; refine c_region ?_; refine o_step rfl (s_field rfl rfl (by decide)) ?_; refine o_step rfl (s_ld rfl (.own meA rfl)) ?_
      by_cases hf0 : 0 ≤ s.fr
      ·
       refine o_step rfl (step_cast (v' := .bool true) (s_geq rfl rfl) (by rw [decide_eq_true (by omega)])) ?_; refine o_step rfl (s_move rfl) ?_; refine o_yes rfl rfl ?_; refine o_step rfl (s_field rfl rfl (by decide)) ?_; refine o_yes rfl rfl ?_; refine o_step rfl (s_ld rfl (.own meA rfl)) ?_; refine o_yes rfl rfl ?_; refine o_step rfl (s_field rfl rfl (by decide)) ?_; refine o_yes rfl rfl ?_; refine o_step rfl (s_ld rfl (.own meA rfl)) ?_; refine o_yes rfl rfl ?_
       by_cases hft : s.fr ≤ s.to
       ·
        refine o_step rfl (step_cast (v' := .bool true) (s_leq rfl rfl) (by rw [decide_eq_true (by omega)])) ?_; refine o_step rfl (s_pick_t rfl rfl) ?_; refine o_step rfl (s_move rfl) ?_; refine o_yes rfl rfl ?_; refine o_step rfl (s_field rfl rfl (by decide)) ?_; refine o_yes rfl rfl ?_; refine o_step rfl (s_ld rfl (.own meA rfl)) ?_; refine o_yes rfl rfl ?_; refine o_step rfl (s_move rfl) ?_; refine o_yes rfl rfl ?_; refine o_step rfl (s_len rfl) ?_; refine o_yes rfl rfl ?_
        by_cases hfl : s.to ≤ w.length
        ·
         rw [cut_y ⟨hf0, hft, hfl⟩] at hmo
         refine o_step rfl (step_cast (v' := .bool true) (s_leq rfl rfl) (by rw [decide_eq_true (by omega)])) ?_; refine o_step rfl (s_pick_t rfl rfl) ?_; refine o_nil ?_; refine x_then (hK15 _ _ ?_); refine c_true rfl ?_; refine c_region ?_; refine o_step rfl (s_move rfl) ?_; refine o_step rfl (s_move rfl) ?_; refine o_step rfl (s_field rfl rfl (by decide)) ?_; refine o_step rfl (s_ld rfl (.own meA rfl)) ?_; refine o_step rfl (s_field rfl rfl (by decide)) ?_; refine o_step rfl (s_ld rfl (.own meA rfl)) ?_; refine o_step rfl (step_cast (v' := .slice (midA xa xc s.fr.toNat 1) ((w.drop s.fr.toNat).take (s.to.toNat - s.fr.toNat)).length (xc - s.fr.toNat)) (s_slice_mid rfl rfl rfl (by omega)) (by simp; omega)) ?_; refine o_app hS ((RdK.old0 h2).mid s.fr.toNat s.to.toNat (by omega) (by omega)) rfl rfl rfl rfl (by omega) (by omega) rfl pkA fun a63 c63 S63 hS63 => ?_; refine o_step rfl (s_assign rfl) ?_
         refine o_nil ?_; refine x_block ?_; refine x_then (hK7 _ _ ?_); refine c_region ?_; refine o_step rfl (s_add rfl rfl (by omega)) ?_; refine o_step rfl (s_move rfl) ?_; refine o_nil ?_; exact x_then (x_inv (j + 1, a63, c63, o ++ (w.drop s.fr.toNat).take (s.to.toNat - s.fr.toNat), S63) ⟨by dsimp only; omega, by rw [expd_take hpa, ex_s hg0 hgl hs, cut_y ⟨hf0, hft, hfl⟩, ← ho], hS63⟩ (by first | omega | (dsimp only; omega)) sbA hzB)
        ·
         refine o_step rfl (step_cast (v' := .bool false) (s_leq rfl rfl) (by rw [decide_eq_false (by omega)])) ?_; refine o_step rfl (s_pick_t rfl rfl) ?_; refine o_nil ?_; refine x_then (hK15 _ _ ?_); refine c_false rfl ?_; refine c_skip ?_; refine x_block ?_; refine x_then (hK7 _ _ ?_); refine c_region ?_; refine o_step rfl (s_add rfl rfl (by omega)) ?_; refine o_step rfl (s_move rfl) ?_; refine o_nil ?_; exact x_then (x_inv (j + 1, a2, c2, o, S) ⟨by dsimp only; omega, by rw [expd_take hpa, ex_s hg0 hgl hs, cut_n (fun h => hfl h.2.2), List.append_nil]; exact ho, hS⟩ (by first | omega | (dsimp only; omega)) sbA hzB)
       ·
        refine o_step rfl (step_cast (v' := .bool false) (s_leq rfl rfl) (by rw [decide_eq_false (by omega)])) ?_; refine o_step rfl (s_pick_t rfl rfl) ?_; refine o_step rfl (s_move rfl) ?_; refine o_no rfl rfl rfl rfl ?_; refine o_no rfl rfl rfl rfl ?_; refine o_no rfl rfl rfl rfl ?_; refine o_no rfl rfl rfl rfl ?_; refine o_no rfl rfl rfl rfl ?_; refine o_step rfl (s_pick_f rfl rfl) ?_; refine o_nil ?_; refine x_then (hK15 _ _ ?_); refine c_false rfl ?_; refine c_skip ?_; refine x_block ?_; refine x_then (hK7 _ _ ?_); refine c_region ?_; refine o_step rfl (s_add rfl rfl (by omega)) ?_; refine o_step rfl (s_move rfl) ?_; refine o_nil ?_; exact x_then (x_inv (j + 1, a2, c2, o, S) ⟨by dsimp only; omega, by rw [expd_take hpa, ex_s hg0 hgl hs, cut_n (fun h => hft h.2.1), List.append_nil]; exact ho, hS⟩ (by first | omega | (dsimp only; omega)) sbA hzB)
      ·
       refine o_step rfl (step_cast (v' := .bool false) (s_geq rfl rfl) (by rw [decide_eq_false (by omega)])) ?_; refine o_step rfl (s_move rfl) ?_; refine o_no rfl rfl rfl rfl ?_; refine o_no rfl rfl rfl rfl ?_; refine o_no rfl rfl rfl rfl ?_; refine o_no rfl rfl rfl rfl ?_; refine o_no rfl rfl rfl rfl ?_; refine o_step rfl (s_pick_f rfl rfl) ?_; refine o_step rfl (s_move rfl) ?_; refine o_no rfl rfl rfl rfl ?_; refine o_no rfl rfl rfl rfl ?_; refine o_no rfl rfl rfl rfl ?_; refine o_no rfl rfl rfl rfl ?_; refine o_no rfl rfl rfl rfl ?_; refine o_step rfl (s_pick_f rfl rfl) ?_; refine o_nil ?_; refine x_then (hK15 _ _ ?_); refine c_false rfl ?_; refine c_skip ?_; refine x_block ?_; refine x_then (hK7 _ _ ?_); refine c_region ?_; refine o_step rfl (s_add rfl rfl (by omega)) ?_; refine o_step rfl (s_move rfl) ?_; refine o_nil ?_; exact x_then (x_inv (j + 1, a2, c2, o, S) ⟨by dsimp only; omega, by rw [expd_take hpa, ex_s hg0 hgl hs, cut_n (fun h => hf0 h.1), List.append_nil]; exact ho, hS⟩ (by first | omega | (dsimp only; omega)) sbA hzB)
  ·
   obtain rfl : j = (ps.map Pc.abs).length := by rw [List.length_map]; omega
   rw [List.take_length] at ho
   subst ho; refine c_exit ?_; refine x_then_exit ?_; refine x_then_exit ?_; refine x_block_exit ?_; refine x_then (hK3 _ _ ?_); refine c_seq fun _ hK16 => ?_; refine c_region ?_; refine o_step rfl (s_move rfl) ?_; refine o_step rfl (s_assign rfl) ?_; refine o_nil ?_; refine x_then (hK16 _ _ ?_); refine c_ret ?_; refine ?_; refine x_sub (Sub.refl _) (H' := S) hzB ?_; exact x_ret rfl (.tmp rfl (.nil)) (⟨_, _, rfl, hS⟩)

theorem eqSpanss_true (a a2 : Option Addr) (c c2 : Nat) (xs ys : List (Sl Sp)) (h : xs.map Sl.xs = ys.map Sl.xs) : HL.Fn Try.prog 17 [.slice a xs.length c, .slice a2 ys.length c2] (fun w => (Rd Esl w (.slice a xs.length c) xs ∧ ∀ s ∈ xs, Rd Esp w s.v s.xs) ∧ (Rd Esl w (.slice a2 ys.length c2) ys ∧ ∀ s ∈ ys, Rd Esp w s.v s.xs)) [] (fun v _ => v = .bool true) := by
  refine fn_of Try.func17 rfl rfl rfl fun w0 hw => ?_
  obtain ⟨⟨hx, hx2⟩, hy, hy2⟩ := hw
  have hsx := hx.sl
  have hsy := hy.sl
  have hbx := hsx.le
  have hll : xs.length = ys.length := by simpa using congrArg List.length h
  refine c_seq fun _ hK1 => ?_; refine c_region ?_; refine o_step rfl (s_assign rfl) ?_; refine o_nil ?_; refine x_then (hK1 _ _ ?_); refine c_seq fun _ hK2 => ?_; refine c_seq fun _ hK3 => ?_; refine c_region ?_; refine o_step rfl (s_move rfl) ?_; refine o_step rfl (s_len rfl) ?_; refine o_step rfl (s_move rfl) ?_; refine o_step rfl (s_len rfl) ?_; refine o_step rfl (s_neq_f rfl rfl (by omega)) ?_; refine o_nil ?_; refine x_then (hK3 _ _ ?_); refine c_false rfl ?_; refine c_skip ?_; refine x_then (hK2 _ _ ?_); refine c_seq fun _ hK4 => ?_; refine c_seq fun _ hK5 => ?_; refine c_region ?_; refine o_step rfl (s_assign rfl) ?_; refine o_nil ?_; refine x_then (hK5 _ _ ?_); refine c_block ?_
  -- not carried: 4
  refine c_loopB (fun (j : Nat) => j ≤ xs.length) (fun (j : Nat) => [(5, .int .i64 j)]) [(0, _), (1, _)] (fun (j : Nat) => []) (fun (j : Nat) => xs.length - j) 0 (Nat.zero_le _) sbA sbA hzB ?_
  rintro j hj
  refine c_seq fun _ hK6 => ?_; refine c_seq fun _ hK7 => ?_; refine c_region ?_; refine o_step rfl (s_move rfl) ?_; refine o_step rfl (s_move rfl) ?_; refine o_step rfl (s_len rfl) ?_; refine o_step rfl (s_lss rfl rfl) ?_; refine o_nil ?_; refine x_then (hK7 _ _ ?_); refine c_if rfl (fun hlt => ?_) (fun hlt => ?_)
  ·
   obtain ⟨x, hxj⟩ : ∃ x, xs[j]? = some x := ⟨_, List.getElem?_eq_getElem (by omega)⟩
   obtain ⟨y, hyj⟩ : ∃ y, ys[j]? = some y := ⟨_, List.getElem?_eq_getElem (by omega)⟩
   have hxm := List.mem_of_getElem? hxj
   have hym := List.mem_of_getElem? hyj
   have he : x.xs = y.xs := by have := congrArg (fun l => l[j]?) h; simpa [List.getElem?_map, hxj, hyj] using this
   refine c_skip ?_; refine x_then (hK6 _ _ ?_); refine c_seq fun _ hK8 => ?_; refine c_block ?_; refine c_seq fun _ hK9 => ?_; refine c_quiet (by kernel_rfl) ?_; refine .op rfl (s_move rfl) ?_; refine .op rfl (s_move rfl) ?_; refine .op rfl (s_idx rfl rfl hsx (by omega)) ?_; refine .op rfl (s_ld rfl ((RdK.old0 hx).ld j 0 hxj rfl (by decide) (by omega))) ?_; refine .op rfl (s_move rfl) ?_; refine .op rfl (s_move rfl) ?_; refine .op rfl (s_idx rfl rfl hsy (by omega)) ?_; refine .op rfl (s_ld rfl ((RdK.old0 hy).ld j 0 hyj rfl (by decide) (by omega))) ?_; refine .call (fun _ _ => rfl) rfl rfl rfl (eqSpans_true x.a y.a x.c y.c x.xs y.xs he) (fun w st => ⟨(RdK.old0 (hx2 x hxm)).out w st, (RdK.old0 (hy2 y hym)).out w st⟩) ?_; refine .op rfl (s_not rfl) ?_; refine .nil ?_; refine x_then (hK9 _ _ ?_); refine c_false rfl ?_; refine c_skip ?_; refine x_block ?_; refine x_then (hK8 _ _ ?_); refine c_region ?_
   refine o_step rfl (s_move rfl) ?_; refine o_step rfl (s_add rfl rfl (by omega)) ?_; refine o_step rfl (s_assign rfl) ?_; refine o_nil ?_; exact x_then (x_inv (j + 1) (by omega) (by first | omega | (dsimp only; omega)) sbA hzB)
  ·
   refine c_exit ?_; refine x_then_exit ?_; refine x_then_exit ?_; refine x_block_exit ?_; refine x_then (hK4 _ _ ?_); refine c_seq fun _ hK10 => ?_; refine c_region ?_; refine o_step rfl (s_assign rfl) ?_; refine o_nil ?_; refine x_then (hK10 _ _ ?_); refine c_ret ?_; refine ?_; exact x_ret rfl (.tmp rfl (.nil)) (rfl)

theorem squared_fn (k n : Nat) (hk : k ≤ 1099511627776) (hn : n ≤ 140737488355328) : HL.Fn Try.prog 37 [.int .i64 k, .int .i64 n] (fun _ => True) [] (fun v _ => ∃ b, v = .bool b ∧ (b = false → n ≤ 400)) := by
  refine fn_of Try.func37 rfl rfl rfl fun w0 hw => ?_; refine c_seq fun _ hK1 => ?_; refine c_region ?_; refine o_step rfl (s_assign rfl) ?_; refine o_nil ?_; refine x_then (hK1 _ _ ?_); refine c_seq fun _ hK2 => ?_; refine c_region ?_; refine o_step rfl (s_move rfl) ?_
  by_cases h4 : (n : Int) > 400
  ·
   refine o_step rfl (step_cast (v' := .bool true) (s_gtr rfl rfl) (by rw [decide_eq_true (by omega)])) ?_; refine o_step rfl (s_move rfl) ?_; refine o_no rfl rfl rfl rfl ?_; refine o_no rfl rfl rfl rfl ?_; refine o_no rfl rfl rfl rfl ?_; refine o_noU rfl rfl rfl ?_; refine o_noU rfl rfl rfl ?_; refine o_noU rfl rfl rfl ?_; refine o_noU rfl rfl rfl ?_; refine o_noU rfl rfl rfl ?_; refine o_noU rfl rfl rfl ?_; refine o_noU rfl rfl rfl ?_; refine o_noU rfl rfl rfl ?_; refine o_no rfl rfl rfl rfl ?_; refine o_step rfl (s_pick_t rfl rfl) ?_; refine o_step rfl (s_assign rfl) ?_; refine o_nil ?_; refine x_then (hK2 _ _ ?_); refine c_ret ?_; refine ?_; exact x_ret rfl (.tmp rfl (.nil)) (⟨_, rfl, fun h => by first | cases h | omega⟩)
  ·
   have hm1 : (0 : Int) < ((n : Int) + 1) * ((n : Int) + 1) := Int.mul_pos (by omega) (by omega)
   have hm2 : ((n : Int) + 1) * ((n : Int) + 1) ≤ 401 * 401 := Int.mul_le_mul (by omega) (by omega) (by omega) (by omega)
   refine o_step rfl (step_cast (v' := .bool false) (s_gtr rfl rfl) (by rw [decide_eq_false (by omega)])) ?_; refine o_step rfl (s_move rfl) ?_; refine o_yes rfl rfl ?_; refine o_step rfl (s_move rfl) ?_; refine o_yes rfl rfl ?_
   by_cases h0 : (n : Int) ≥ 0
   ·
    refine o_step rfl (step_cast (v' := .bool true) (s_geq rfl rfl) (by rw [decide_eq_true (by omega)])) ?_; refine o_yes rfl rfl ?_; refine o_step rfl (s_move rfl) ?_; refine o_yes rfl rfl ?_; refine o_step rfl (s_move rfl) ?_; refine o_yes rfl rfl ?_; refine o_step rfl (s_move rfl) ?_; refine o_yes rfl rfl ?_; refine o_step rfl (s_add rfl rfl (by omega)) ?_; refine o_yes rfl rfl ?_; refine o_step rfl (s_move rfl) ?_; refine o_yes rfl rfl ?_; refine o_step rfl (s_add rfl rfl (by omega)) ?_; refine o_yes rfl rfl ?_; refine o_step rfl (s_mul rfl rfl (by omega)) ?_; refine o_yes rfl rfl ?_; refine o_step rfl (s_quo rfl rfl (by omega)) ?_; refine o_yes rfl rfl ?_; refine o_step rfl (s_gtr rfl rfl) ?_; refine o_yes rfl rfl ?_; refine o_step rfl (s_pick_t rfl rfl) ?_; refine o_step rfl (s_pick_f rfl rfl) ?_; refine o_step rfl (s_assign rfl) ?_; refine o_nil ?_; refine x_then (hK2 _ _ ?_); refine c_ret ?_
    refine ?_; exact x_ret rfl (.tmp rfl (.nil)) (⟨_, rfl, fun h => by first | cases h | omega⟩)
   ·
    omega

theorem heavy_fn (ra : Option Addr) (rc : Nat) (re : List Nd) (hre : ∀ x ∈ re, -128 ≤ x.op ∧ x.op < 128) (hrl : re.length ≤ 2147483648) (hrf : refsB re = false) (n : Nat) (hn : n ≤ 140737488355328) : HL.Fn Try.prog 23 [.slice ra re.length rc, .int .i64 n] (fun W => Rd En W (.slice ra re.length rc) re) [] (fun v _ => ∃ b, v = .bool b ∧ (b = false → shapedB re = true → n ≤ 400)) := by
  refine fn_of Try.func23 rfl rfl rfl fun w0 hw => ?_; refine c_seq fun _ hK1 => ?_; refine c_region ?_; refine o_step rfl (s_assign rfl) ?_; refine o_nil ?_; refine x_then (hK1 _ _ ?_); refine c_seq fun _ hK2 => ?_; refine c_seq fun _ hK3 => ?_; refine c_region ?_; refine o_step rfl (s_move rfl) ?_; refine o_callP (rShaped_fn ra rc re hre) rfl rfl rfl (fun _ st => (RdK.old0 hw).out _ st) (fun v6 hv6 => ?_); subst hv6
  cases hsh : shapedB re
  ·
   refine o_step rfl (s_not rfl) ?_; refine o_step rfl (s_move rfl) ?_; refine o_no rfl rfl rfl rfl ?_; refine o_no rfl rfl rfl rfl ?_; refine o_step rfl (s_pick_t rfl rfl) ?_; refine o_nil ?_; refine x_then (hK3 _ _ ?_); refine c_true rfl ?_; refine c_seq fun _ hK4 => ?_; refine c_region ?_; refine o_step rfl (s_assign rfl) ?_; refine o_nil ?_; refine x_then (hK4 _ _ ?_); refine c_ret ?_; refine x_then_ret (?_); exact x_ret rfl (.tmp rfl (.nil)) (⟨_, rfl, fun _ h => absurd h (by rw [hsh]; decide)⟩)
  ·
   refine o_step rfl (s_not rfl) ?_; refine o_step rfl (s_move rfl) ?_; refine o_yes rfl rfl ?_; refine o_step rfl (s_move rfl) ?_; refine o_yes rfl rfl ?_; refine o_step rfl (s_lss_f rfl rfl (by omega)) ?_; refine o_step rfl (s_pick_f rfl rfl) ?_; refine o_nil ?_; refine x_then (hK3 _ _ ?_); refine c_false rfl ?_; refine c_skip ?_; refine x_then (hK2 _ _ ?_); refine c_seq fun _ hK5 => ?_; refine c_seq fun _ hK6 => ?_; refine c_region ?_; refine o_step rfl (s_move rfl) ?_; refine o_callP (rRefs_fn ra rc re hre) rfl rfl rfl (fun _ st => (RdK.old0 hw).out _ st) (fun v13 hv13 => ?_)
   rw [hrf] at hv13
   subst hv13; refine o_nil ?_; refine x_then (hK6 _ _ ?_); refine c_false rfl ?_; refine c_skip ?_; refine x_then (hK5 _ _ ?_); refine c_seq fun _ hK7 => ?_; refine c_region ?_; refine o_step rfl (s_move rfl) ?_; refine o_callP (rWeight_fn ra rc re hre) rfl rfl rfl (fun _ st => (RdK.old0 hw).out _ st) (fun v18 hv18 => ?_)
   obtain ⟨k, hk, rfl⟩ := hv18
   refine o_step rfl (s_move rfl) ?_; refine o_callP (squared_fn k n (by omega) hn) rfl rfl rfl (fun _ _ => trivial) (fun v20 hv20 => ?_)
   obtain ⟨b, rfl, hb⟩ := hv20
   refine o_step rfl (s_assign rfl) ?_; refine o_nil ?_; refine x_then (hK7 _ _ ?_); refine c_ret ?_; refine ?_; exact x_ret rfl (.tmp rfl (.nil)) (⟨_, rfl, fun h _ => hb h⟩)
end Go.Proofs.Ytmpeokbongnniaa

/- Part of the proofs over this seat: see the text that holds the theorem. Conditions: each theorem bears its own. -/
namespace Go.Proofs.Ytmpeokbongnniaa
open Go Go.HL Go.Proofs Go.HL.Kl Go.HL.Kl.Mc Go.HL.Kl.Mc.AskE
structure RxA (bR : Nat) (ra : Option Addr) (rc : Nat) (re : List Nd) (x : Nd) (ks : Mc.F) (am : Option Addr) (H : Hp) (W : World) : Prop where
  r1 : RdP W bR 0 [.slice ra re.length rc, .iface 93 (.agg #[.slice am (mach (.nd x ks .nil)).length (mach (.nd x ks .nil)).length]), .int .i64 ((gcn re : Nat) : Int)]
  n1 : bR ∉ keys H
  d1 : Rd En W (.slice ra re.length rc) re
  a1 : Apart (keys H) (.slice ra re.length rc)
  d2 : Rd Ein W (.slice am (mach (.nd x ks .nil)).length (mach (.nd x ks .nil)).length) (mach (.nd x ks .nil))
  a2 : Apart (keys H) (.slice am (mach (.nd x ks .nil)).length (mach (.nd x ks .nil)).length)
theorem rdP_apart {w0 w : World} {M : List Nat} {H S : Hp} {b : Nat} {cs : List Value} (h : RdP w0 b 0 cs) (hc : cs ≠ []) (hn : b ∉ M) (st : St w0 w M H) (hin : HIn S H) : b ∉ keys S := fun hm => by
  obtain ⟨⟨b', o⟩, hmS, hb⟩ := List.mem_map.1 hm
  obtain rfl : b' = b := hb
  rcases st.own _ _ (hin _ hmS) with h1 | h1
  · exact hn h1
  · have := h.lt hc; omega
theorem rxPre {bR : Nat} {ra : Option Addr} {rc : Nat} {re : List Nd} {x : Nd} {ks : Mc.F} {am : Option Addr} : PreS (RxA bR ra rc re x ks am) := fun {w0 w H0 H S} h st hin =>
  ⟨(RdPK.old (κ := ⟨0, [], w0, keys H0⟩) (H := H) h.r1 h.n1).out w st, rdP_apart h.r1 (by simp) h.n1 st hin, (RdK.old (κ := ⟨0, [], w0, keys H0⟩) (H := H) h.d1 h.a1).out w st, St.apart_M st hin h.d1 h.a1 (by decide), (RdK.old (κ := ⟨0, [], w0, keys H0⟩) (H := H) h.d2 h.a2).out w st, St.apart_M st hin h.d2 h.a2 (by decide)⟩
def HSR (_ : Unit) (S : Hp) : Prop := S = []
theorem rxFind {bR : Nat} {ra : Option Addr} {rc : Nat} {re : List Nd} {x : Nd} {ks : Mc.F} {am : Option Addr} {w : List UInt8} (hre : ∀ x ∈ re, -128 ≤ x.op ∧ x.op < 128) (hwl : w.length ≤ 1000000) (hM : May re w x ks) : FindC 81 w (pt bR) HSR (stpR re w) (RxA bR ra rc re x ks am) := by
  intro s S St xa xc a hs ha hO _
  obtain rfl : S = [] := hs
  have h := (find_re bR ra rc re hre xa xc w hwl x ks hM am (mach (.nd x ks .nil)).length a).frame (R := St)
  have h2 := h.has (pre' := RxA bR ra rc re x ks am ([] ++ St)) (fun W hp hS => ⟨hp.r1, hp.d2, hp.d1, hO.rd (fun b o hm => hS.has b o hm)⟩)
  refine Fn.sub h2 fun v S' ⟨S1, hS', hf⟩ => ?_
  obtain ⟨b, L, a', c', hR, hv, hO2⟩ := hf.res
  subst hS'
  exact ⟨S1, HSub.of_pick .here, b, L, (), a', c', [], S1, hv, rfl, rfl, hO2, hR⟩
theorem matchesCR_fn (vF : Value) (hv1 : vF.oneCell' = true) (xa : Option Addr) (n xc : Nat) : HL.Fn Try.prog 27 [vF, .slice xa n xc] (fun _ => True) [] (fun v S' => ∃ b2 b3, v = .func (.func 43) [].toArray [pt b3, pt b2].toArray ∧ S' = [(b3, .cells [.slice xa n xc].toArray 23 (0, 0)), (b2, .cells [vF].toArray 24 (0, 0))]) := by
  refine fn_of Try.func27 rfl rfl rfl fun w0 hw => ?_; refine c_seq fun _ hK1 => ?_; refine c_region ?_; refine o_box rfl (cells_one hv1) rfl fun b2 => ?_; refine o_box rfl rfl rfl fun b3 => ?_; refine o_step rfl (s_assign rfl) ?_; refine o_nil ?_; refine x_then (hK1 _ _ ?_); refine c_seq fun _ hK2 => ?_; refine c_region ?_; refine o_step rfl (s_func (us := []) (vs := [_, _]) rfl rfl) ?_; refine o_step rfl (s_assign rfl) ?_; refine o_nil ?_; refine x_then (hK2 _ _ ?_); refine c_ret ?_; refine ?_; exact x_ret rfl (.tmp rfl (.nil)) (⟨_, _, rfl, rfl⟩)

theorem matchesR_it {σ : Type} (w : List UInt8) (hwl : w.length ≤ 1000000) (vF : Value) (HS : σ → Hp → Prop) (stp : σ → Nat → Bool → List Sp → σ → Prop) (preF : Hp → World → Prop) (hdet : Det stp) (hF : FindC 81 w vF HS stp preF) (hst : PreS preF) (hv1 : vF.oneCell' = true) (xa : Option Addr) (xc : Nat) (s0 : σ) (S0 : Hp) (hs0 : HS s0 S0) (xs : List (List Sp)) (hM0 : MtS stp w.length s0 0 (-1) xs) (bt br : Nat) : ItV Try.prog 43 [] [pt bt, pt br] EvSp xs (fun H W => preF H W ∧ Rd Eb W (.slice xa w.length xc) w ∧ Apart (keys H) (.slice xa w.length xc)) ((bt, .cells [.slice xa w.length xc].toArray 23 (0, 0)) :: (br, .cells [vF].toArray 24 (0, 0)) :: S0) (fun S1 => ∃ s2 S2, S1 = (bt, .cells [.slice xa w.length xc].toArray 23 (0, 0)) :: (br, .cells [vF].toArray 24 (0, 0)) :: S2 ∧ HS s2 S2) :=
  ⟨enters_of Try.func43 rfl rfl, fun l HY HX hY B hB => matchesR_fn w hwl vF HS stp preF hdet hF hst hv1 bt br xa xc s0 S0 hs0 xs hM0 l HY HX hY B hB⟩

set_option maxHeartbeats 1000000 in
theorem spansR_fn {σ : Type} (w : List UInt8) (hwl : w.length ≤ 1000000) (vF : Value) (HS : σ → Hp → Prop) (stp : σ → Nat → Bool → List Sp → σ → Prop) (preF : Hp → World → Prop) (hdet : Det stp) (hF : FindC 81 w vF HS stp preF) (hst : PreS preF) (hv1 : vF.oneCell' = true) (xa : Option Addr) (xc : Nat) (s0 : σ) (S0 : Hp) (hs0 : HS s0 S0) (xs : List (List Sp)) (hM0 : MtS stp w.length s0 0 (-1) xs) : HL.Fn Try.prog 9 [vF, .slice xa w.length xc] (fun W => preF S0 W ∧ Rd Eb W (.slice xa w.length xc) w ∧ Apart (keys S0) (.slice xa w.length xc)) S0 (fun v S' => ∃ a c sls Sh Sc s2 S2, v = .slice a sls.length c ∧ S' = Sh ++ (Sc ++ S2) ∧ OwnS Esl 1 48 (.slice a sls.length c) sls Sh ∧ sls.map Sl.xs = xs ∧ OwnL Esp 2 51 sls xs Sc ∧ HS s2 S2) := by
  refine fn_ofM Try.func9 rfl rfl rfl fun w0 hw => ?_
  obtain ⟨hp0, hx0, ha0⟩ := hw
  have hcl := hM0.ch.len
  refine c_seqD fun _ hK1 => ?_; refine c_region ?_; refine o_step rfl (s_assign rfl) ?_; refine o_nil ?_; refine x_then (hK1 _ _ _ ?_); refine c_seqD fun _ hK2 => ?_; refine c_region ?_; refine o_alloc rfl rfl fun b5 => ?_; refine o_nil ?_; refine x_then (hK2 _ _ _ ?_); refine c_seqD fun _ hK3 => ?_; refine c_seqD fun _ hK4 => ?_; refine c_region ?_; refine o_step rfl (s_move rfl) ?_; refine o_step rfl (s_move rfl) ?_; refine o_call (matchesCR_fn vF hv1 xa w.length xc) rfl rfl rfl (by exact .nil) (fun _ _ => trivial) (fun v9 S9 ⟨b2, b3, hv9, hS9⟩ => ?_); subst hv9
  subst hS9; refine o_nil ?_; refine x_then (hK4 _ _ _ ?_); refine c_block ?_; refine c_rangeV (α := List Sp) (B0 := [(b5, .cells [.slice none 0 0].toArray 29 (0, 0))]) (fun p B => ∃ (q : Sl (Sl Sp)) (Sh Sc : Hp), B = (b5, .cells [.slice q.a q.xs.length q.c].toArray 29 (0, 0)) :: (Sh ++ Sc) ∧ OwnS Esl 1 48 (.slice q.a q.xs.length q.c) q.xs Sh ∧ q.xs.map Sl.xs = p ∧ OwnL Esp 2 51 q.xs p Sc) (fun c p B => False) rfl (matchesR_it w hwl vF HS stp preF hdet hF hst hv1 xa xc s0 S0 hs0 xs hM0 b3 b2) ((Pick.takeC pkA (Pick.takeC pkA (Pick.takeA pkA pkA)))) ((fun w H1 S1 st hs => ⟨hst hp0 st (hin_sub hs), (RdK.old hx0 ha0).out _ st, St.apart_M st (hin_sub hs) hx0 ha0 (by decide)⟩)) ⟨⟨none, 0, []⟩, [], [], rfl, .nil, rfl, .nil⟩ (by kernel_rfl) (fun x vs Sx ⟨_, _, h, _⟩ => by rw [h]; rfl) (by kernel_rfl) ?_ ?_ ?_
  ·
   rintro l r p x B W er1 er2 ⟨q, Sh, Sc, rfl, hO, hqx, hL⟩ hx vs Sx ⟨va, vc, rfl, hSx⟩ post hy hn
   have hpl := hx.length_le
   have hql := congrArg List.length hqx
   rw [List.length_append, List.length_singleton] at hpl
   rw [List.length_map] at hql
   have hqb : q.xs.length ≤ 1000001 := by split at hcl <;> omega
   refine c_region ?_; refine o_step rfl (s_assign rfl) ?_; refine o_nil ?_; refine x_then (x_begin upA (by kernel_rfl) ?_); refine c_block ?_; refine c_region ?_; refine o_step rfl (s_ld rfl (.own meA rfl)) ?_; refine o_step rfl (s_move rfl) ?_; refine o_bs (E := Esl) (xs := [(⟨va, vc, x⟩ : Sl Sp)]) (vs := [_]) rfl rfl rfl rfl rfl (by decide) (by decide) fun b13 S13 hS13 => ?_; refine o_app hO (hS13.rdk hiA) rfl rfl rfl rfl (by simp only [List.length_singleton]; omega) (by simp only [List.length_singleton]; omega) rfl pkA fun a14 c14 S14 hS14 => ?_; refine o_store rfl rfl rfl upA ltA rfl ?_; refine o_nil ?_; refine x_block ?_; refine x_sub (Sub.refl _) (H' := (l, .loop (recAt r .busy none)) :: (b5, .cells [.slice a14 (q.xs ++ [(⟨va, vc, x⟩ : Sl Sp)]).length c14].toArray 29 (0, 0)) :: (S14 ++ (Sc ++ Sx))) hzB ?_; exact x_rnormal upA (hy _ ⟨⟨a14, c14, q.xs ++ [⟨va, vc, x⟩]⟩, S14, Sc ++ Sx, rfl, hS14, by simp [hqx], hL.snoc (s := ⟨va, vc, x⟩) hSx⟩)
  ·
   rintro D0 S0r B0 ⟨s2, S2, rfl, hs2⟩ ⟨q, Sh, Sc, rfl, hO, hqx, hL⟩
   refine x_block ?_; refine x_then (hK3 _ _ _ ?_); refine c_seqD fun _ hK5 => ?_; refine c_region ?_; refine o_step rfl (s_ld rfl (.own meA rfl)) ?_; refine o_step rfl (s_assign rfl) ?_; refine o_nil ?_; refine x_then (hK5 _ _ _ ?_); refine c_ret ?_; refine ?_; refine x_sub (Sub.refl _) (H' := (D0, .deferred (some [])) :: (Sh ++ (Sc ++ S2))) hzB ?_; exact x_retM (.cons (.nil)) pkA rfl (.tmp rfl (.nil)) (⟨q.a, q.c, q.xs, Sh, Sc, s2, S2, rfl, rfl, hO, hqx, by exact hL, hs2⟩)
  ·
   rintro D0 S0r c p B0 ⟨s2, S2, rfl, hs2⟩ hpx hX
   exact hX.elim

theorem matchesCP_fn (vF : Value) (hv1 : vF.oneCell' = true) (xa : Option Addr) (n xc : Nat) : HL.Fn Try.prog 42 [vF, .slice xa n xc] (fun _ => True) [] (fun v S' => ∃ b2 b3, v = .func (.func 55) [].toArray [pt b3, pt b2].toArray ∧ S' = [(b3, .cells [.slice xa n xc].toArray 23 (0, 0)), (b2, .cells [vF].toArray 63 (0, 0))]) := by
  refine fn_of Try.func42 rfl rfl rfl fun w0 hw => ?_; refine c_seq fun _ hK1 => ?_; refine c_region ?_; refine o_box rfl (cells_one hv1) rfl fun b2 => ?_; refine o_box rfl rfl rfl fun b3 => ?_; refine o_step rfl (s_assign rfl) ?_; refine o_nil ?_; refine x_then (hK1 _ _ ?_); refine c_seq fun _ hK2 => ?_; refine c_region ?_; refine o_step rfl (s_func (us := []) (vs := [_, _]) rfl rfl) ?_; refine o_step rfl (s_assign rfl) ?_; refine o_nil ?_; refine x_then (hK2 _ _ ?_); refine c_ret ?_; refine ?_; exact x_ret rfl (.tmp rfl (.nil)) (⟨_, _, rfl, rfl⟩)

theorem matchesP_it {σ : Type} (w : List UInt8) (hwl : w.length ≤ 1000000) (vF : Value) (HS : σ → Hp → Prop) (stp : σ → Nat → Bool → List Sp → σ → Prop) (preF : Hp → World → Prop) (hdet : Det stp) (hF : FindC 115 w vF HS stp preF) (hst : PreS preF) (hv1 : vF.oneCell' = true) (xa : Option Addr) (xc : Nat) (s0 : σ) (S0 : Hp) (hs0 : HS s0 S0) (xs : List (List Sp)) (hM0 : MtS stp w.length s0 0 (-1) xs) (bt br : Nat) : ItV Try.prog 55 [] [pt bt, pt br] EvSp xs (fun H W => preF H W ∧ Rd Eb W (.slice xa w.length xc) w ∧ Apart (keys H) (.slice xa w.length xc)) ((bt, .cells [.slice xa w.length xc].toArray 23 (0, 0)) :: (br, .cells [vF].toArray 63 (0, 0)) :: S0) (fun S1 => ∃ s2 S2, S1 = (bt, .cells [.slice xa w.length xc].toArray 23 (0, 0)) :: (br, .cells [vF].toArray 63 (0, 0)) :: S2 ∧ HS s2 S2) :=
  ⟨enters_of Try.func55 rfl rfl, fun l HY HX hY B hB => matchesP_fn w hwl vF HS stp preF hdet hF hst hv1 bt br xa xc s0 S0 hs0 xs hM0 l HY HX hY B hB⟩

set_option maxHeartbeats 1000000 in
theorem spansP_fn {σ : Type} (w : List UInt8) (hwl : w.length ≤ 1000000) (vF : Value) (HS : σ → Hp → Prop) (stp : σ → Nat → Bool → List Sp → σ → Prop) (preF : Hp → World → Prop) (hdet : Det stp) (hF : FindC 115 w vF HS stp preF) (hst : PreS preF) (hv1 : vF.oneCell' = true) (xa : Option Addr) (xc : Nat) (s0 : σ) (S0 : Hp) (hs0 : HS s0 S0) (xs : List (List Sp)) (hM0 : MtS stp w.length s0 0 (-1) xs) : HL.Fn Try.prog 26 [vF, .slice xa w.length xc] (fun W => preF S0 W ∧ Rd Eb W (.slice xa w.length xc) w ∧ Apart (keys S0) (.slice xa w.length xc)) S0 (fun v S' => ∃ a c sls Sh Sc s2 S2, v = .slice a sls.length c ∧ S' = Sh ++ (Sc ++ S2) ∧ OwnS Esl 1 48 (.slice a sls.length c) sls Sh ∧ sls.map Sl.xs = xs ∧ OwnL Esp 2 51 sls xs Sc ∧ HS s2 S2) := by
  refine fn_ofM Try.func26 rfl rfl rfl fun w0 hw => ?_
  obtain ⟨hp0, hx0, ha0⟩ := hw
  have hcl := hM0.ch.len
  refine c_seqD fun _ hK1 => ?_; refine c_region ?_; refine o_step rfl (s_assign rfl) ?_; refine o_nil ?_; refine x_then (hK1 _ _ _ ?_); refine c_seqD fun _ hK2 => ?_; refine c_region ?_; refine o_alloc rfl rfl fun b5 => ?_; refine o_nil ?_; refine x_then (hK2 _ _ _ ?_); refine c_seqD fun _ hK3 => ?_; refine c_seqD fun _ hK4 => ?_; refine c_region ?_; refine o_step rfl (s_move rfl) ?_; refine o_step rfl (s_move rfl) ?_; refine o_call (matchesCP_fn vF hv1 xa w.length xc) rfl rfl rfl (by exact .nil) (fun _ _ => trivial) (fun v9 S9 ⟨b2, b3, hv9, hS9⟩ => ?_); subst hv9
  subst hS9; refine o_nil ?_; refine x_then (hK4 _ _ _ ?_); refine c_block ?_; refine c_rangeV (α := List Sp) (B0 := [(b5, .cells [.slice none 0 0].toArray 29 (0, 0))]) (fun p B => ∃ (q : Sl (Sl Sp)) (Sh Sc : Hp), B = (b5, .cells [.slice q.a q.xs.length q.c].toArray 29 (0, 0)) :: (Sh ++ Sc) ∧ OwnS Esl 1 48 (.slice q.a q.xs.length q.c) q.xs Sh ∧ q.xs.map Sl.xs = p ∧ OwnL Esp 2 51 q.xs p Sc) (fun c p B => False) rfl (matchesP_it w hwl vF HS stp preF hdet hF hst hv1 xa xc s0 S0 hs0 xs hM0 b3 b2) ((Pick.takeC pkA (Pick.takeC pkA (Pick.takeA pkA pkA)))) ((fun w H1 S1 st hs => ⟨hst hp0 st (hin_sub hs), (RdK.old hx0 ha0).out _ st, St.apart_M st (hin_sub hs) hx0 ha0 (by decide)⟩)) ⟨⟨none, 0, []⟩, [], [], rfl, .nil, rfl, .nil⟩ (by kernel_rfl) (fun x vs Sx ⟨_, _, h, _⟩ => by rw [h]; rfl) (by kernel_rfl) ?_ ?_ ?_
  ·
   rintro l r p x B W er1 er2 ⟨q, Sh, Sc, rfl, hO, hqx, hL⟩ hx vs Sx ⟨va, vc, rfl, hSx⟩ post hy hn
   have hpl := hx.length_le
   have hql := congrArg List.length hqx
   rw [List.length_append, List.length_singleton] at hpl
   rw [List.length_map] at hql
   have hqb : q.xs.length ≤ 1000001 := by split at hcl <;> omega
   refine c_region ?_; refine o_step rfl (s_assign rfl) ?_; refine o_nil ?_; refine x_then (x_begin upA (by kernel_rfl) ?_); refine c_block ?_; refine c_region ?_; refine o_step rfl (s_ld rfl (.own meA rfl)) ?_; refine o_step rfl (s_move rfl) ?_; refine o_bs (E := Esl) (xs := [(⟨va, vc, x⟩ : Sl Sp)]) (vs := [_]) rfl rfl rfl rfl rfl (by decide) (by decide) fun b13 S13 hS13 => ?_; refine o_app hO (hS13.rdk hiA) rfl rfl rfl rfl (by simp only [List.length_singleton]; omega) (by simp only [List.length_singleton]; omega) rfl pkA fun a14 c14 S14 hS14 => ?_; refine o_store rfl rfl rfl upA ltA rfl ?_; refine o_nil ?_; refine x_block ?_; refine x_sub (Sub.refl _) (H' := (l, .loop (recAt r .busy none)) :: (b5, .cells [.slice a14 (q.xs ++ [(⟨va, vc, x⟩ : Sl Sp)]).length c14].toArray 29 (0, 0)) :: (S14 ++ (Sc ++ Sx))) hzB ?_; exact x_rnormal upA (hy _ ⟨⟨a14, c14, q.xs ++ [⟨va, vc, x⟩]⟩, S14, Sc ++ Sx, rfl, hS14, by simp [hqx], hL.snoc (s := ⟨va, vc, x⟩) hSx⟩)
  ·
   rintro D0 S0r B0 ⟨s2, S2, rfl, hs2⟩ ⟨q, Sh, Sc, rfl, hO, hqx, hL⟩
   refine x_block ?_; refine x_then (hK3 _ _ _ ?_); refine c_seqD fun _ hK5 => ?_; refine c_region ?_; refine o_step rfl (s_ld rfl (.own meA rfl)) ?_; refine o_step rfl (s_assign rfl) ?_; refine o_nil ?_; refine x_then (hK5 _ _ _ ?_); refine c_ret ?_; refine ?_; refine x_sub (Sub.refl _) (H' := (D0, .deferred (some [])) :: (Sh ++ (Sc ++ S2))) hzB ?_; exact x_retM (.cons (.nil)) pkA rfl (.tmp rfl (.nil)) (⟨q.a, q.c, q.xs, Sh, Sc, s2, S2, rfl, rfl, hO, hqx, by exact hL, hs2⟩)
  ·
   rintro D0 S0r c p B0 ⟨s2, S2, rfl, hs2⟩ hpx hX
   exact hX.elim
end Go.Proofs.Ytmpeokbongnniaa
