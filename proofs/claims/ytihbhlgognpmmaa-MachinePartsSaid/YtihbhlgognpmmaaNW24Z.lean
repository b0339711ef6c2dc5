/- Part of the proofs over this seat: see the text that holds the theorem. Conditions: each theorem bears its own. -/
import Derived.Test.YtihbhlgognpmmaaNW15Z
import Derived.Test.YtihbhlgognpmmaaMT19Z
import Derived.Test.YtihbhlgognpmmaaMT9Z
namespace Go.Proofs.Ytihbhlgognpmmaa
open Go Go.HL Go.Proofs Go.HL.Kl Go.HL.Kl.Mc
set_option maxHeartbeats 1000000 in
theorem runs_fn (ma : Option Addr) (mc : Nat) (m : List In) (hmr : ∀ t ∈ m, -128 ≤ t.op ∧ t.op < 128) (ta : Option Addr) (tc : Nat) (w : List UInt8) (hwl : w.length ≤ 1000000) (D : Nat → Nat → Prop) (hD : ∀ (p : Nat) (out : List Bool), p ≤ w.length → EndsP m w (p : Int) out → IsS out w.length (D p)) : HL.Fn Try.prog 23 [.slice ma m.length mc, .slice ta w.length tc] (fun W => Rd Ein W (.slice ma m.length mc) m ∧ Rd Eb W (.slice ta w.length tc) w) [] (RowsC w.length D) := by
  refine fn_of Try.func23 rfl rfl rfl fun w0 hw => ?_
  refine c_seq fun _ hK1 => ?_
  refine c_region ?_
  refine o_step rfl (s_assign rfl) ?_
  refine o_nil ?_
  refine x_then (hK1 _ _ ?_)
  refine c_seq fun _ hK2 => ?_
  refine c_region ?_
  refine o_step rfl (s_assign rfl) ?_
  refine o_nil ?_
  refine x_then (hK2 _ _ ?_)
  refine c_seq fun _ hK3 => ?_
  refine c_seq fun _ hK4 => ?_
  refine c_region ?_
  refine o_step rfl (s_assign rfl) ?_
  refine o_nil ?_
  refine x_then (hK4 _ _ ?_)
  refine c_block ?_
  refine c_loop4 (fun (p : Nat) (q : Sl (Sl Bool)) (So : Hp) (Sr : Hp) => p ≤ w.length + 1 ∧ RowsTo q.xs w.length p D ∧ OwnS (Esl (α := Bool)) 1 33 (.slice q.a q.xs.length q.c) q.xs So ∧ (∀ s ∈ q.xs, RdS Ebo (.slice s.a s.xs.length s.c) s.xs Sr)) (fun (p : Nat) (q : Sl (Sl Bool)) (So : Hp) (Sr : Hp) => [(6, .int .i64 p), (5, .slice q.a q.xs.length q.c)]) [(0, _), (1, _), (4, _)] (fun (p : Nat) (q : Sl (Sl Bool)) (So : Hp) (Sr : Hp) => So ++ Sr) (fun (p : Nat) (q : Sl (Sl Bool)) (So : Hp) (Sr : Hp) => w.length + 1 - p) 0 ⟨none, 0, []⟩ [] [] ⟨by omega, .zero, .nil, fun s hs => (by cases hs)⟩ sbA sbA hzB ?_
  rintro p q So Sr ⟨hp, hR, hO, hr⟩
  have hql := hR.len
  refine c_seq fun _ hK5 => ?_
  refine c_seq fun _ hK6 => ?_
  refine c_region ?_
  refine o_step rfl (s_move rfl) ?_
  refine o_step rfl (s_move rfl) ?_
  refine o_step rfl (s_len rfl) ?_
  by_cases hpw : p ≤ w.length
  ·
   refine o_step rfl (step_cast (v' := .bool true) (s_leq rfl rfl) (by rw [decide_eq_true (by omega)])) ?_
   refine o_nil ?_
   refine x_then (hK6 _ _ ?_)
   refine c_true rfl ?_
   refine c_skip ?_
   refine x_then (hK5 _ _ ?_)
   refine c_seq fun _ hK7 => ?_
   refine c_block ?_
   refine c_region ?_
   refine o_step rfl (s_move rfl) ?_
   refine o_step rfl (s_move rfl) ?_
   refine o_step rfl (s_move rfl) ?_
   refine o_step rfl (s_move rfl) ?_
   refine o_call (ends_fn ma mc m hmr ta tc w (by omega) p) rfl rfl rfl (by exact .nil) (fun w st => ⟨(RdK.old0 hw.1).out w st, (RdK.old0 hw.2).out w st⟩) (fun v17 S17 ⟨ae, ce, out, hv17, hE, hP⟩ => ?_)
   have hi17 := hD p out hpw hP
   rw [← hP.1] at hv17
   subst hv17
   refine o_bs (E := Esl (α := Bool)) (xs := [(⟨ae, ce, out⟩ : Sl Bool)]) (vs := [_]) rfl rfl rfl rfl rfl (by decide) (by decide) fun b18 S18 hS18 => ?_
   refine o_app hO (hS18.rdk hiA) rfl rfl rfl rfl (by simp; omega) (by simp; omega) rfl pkA fun a19 c19 S19 hS19 => ?_
   refine o_step rfl (s_assign rfl) ?_
   refine o_nil ?_
   refine x_block ?_
   refine x_then (hK7 _ _ ?_)
   refine c_region ?_
   refine o_step rfl (s_move rfl) ?_
   refine o_step rfl (s_add rfl rfl (by omega)) ?_
   refine o_step rfl (s_assign rfl) ?_
   refine o_nil ?_
   exact x_then (x_inv (p + 1, ⟨a19, c19, q.xs ++ [⟨ae, ce, out⟩]⟩, S19, S17 ++ Sr) ⟨by omega, hR.step (s := ⟨ae, ce, out⟩) hi17, hS19, fun s hs => (List.mem_append.1 hs).elim (fun hs => (hr s hs).mono hiA) fun hs => by obtain rfl := List.mem_singleton.1 hs; exact hE.rds.mono hiA⟩ (by first | omega | (dsimp only; omega)) sbA hzB)
  ·
   obtain rfl : p = w.length + 1 := by omega
   refine o_step rfl (step_cast (v' := .bool false) (s_leq rfl rfl) (by rw [decide_eq_false (by omega)])) ?_
   refine o_nil ?_
   refine x_then (hK6 _ _ ?_)
   refine c_false rfl ?_
   refine c_exit ?_
   refine x_then_exit ?_
   refine x_then_exit ?_
   refine x_block_exit ?_
   refine x_then (hK3 _ _ ?_)
   refine c_seq fun _ hK8 => ?_
   refine c_region ?_
   refine o_step rfl (s_move rfl) ?_
   refine o_step rfl (s_assign rfl) ?_
   refine o_nil ?_
   refine x_then (hK8 _ _ ?_)
   refine c_ret ?_
   refine ?_
   exact x_ret rfl (.tmp rfl (.nil)) ((.of hR hO hr))

set_option maxHeartbeats 1000000 in
theorem from_fn (ra : Option Addr) (rc : Nat) (rs : List (Sl Bool)) (N : Nat) (D : Nat → Nat → Prop) (hR : RowsP rs N D) (hN : N ≤ 1000000) (pa : Option Addr) (pc : Nat) (pl : List Bool) (P : Nat → Prop) (hP : IsS pl N P) (hPb : ∀ p, P p → p ≤ N) : HL.Fn Try.prog 24 [.slice ra rs.length rc, .slice pa pl.length pc] (fun W => RdRows W (.slice ra rs.length rc) rs ∧ Rd Ebo W (.slice pa pl.length pc) pl) [] (fun v S' => ∃ a c out, v = .slice a out.length c ∧ OwnS Ebo 1 4 (.slice a out.length c) out S' ∧ IsS out N (img D P)) := by
  refine fn_of Try.func24 rfl rfl rfl fun w0 hw => ?_
  obtain ⟨hw1, hw2⟩ := hw
  have hsr := hw1.out.sl
  have hsp := hw2.sl
  have hrl := hR.len
  have hpl := hP.len
  refine c_seq fun _ hK1 => ?_
  refine c_region ?_
  refine o_step rfl (s_assign rfl) ?_
  refine o_nil ?_
  refine x_then (hK1 _ _ ?_)
  refine c_seq fun _ hK2 => ?_
  refine c_region ?_
  refine o_step rfl (s_move rfl) ?_
  refine o_step rfl (s_len rfl) ?_
  refine o_make (E := Ebo) (zx := false) (n := rs.length) rfl rfl rfl (by omega) (by omega) rfl fun b10 S10 hS10 => ?_
  refine o_step rfl (s_assign rfl) ?_
  refine o_nil ?_
  refine x_then (hK2 _ _ ?_)
  refine c_seq fun _ hK3 => ?_
  refine c_seq fun _ hK4 => ?_
  refine c_region ?_
  refine o_step rfl (s_assign rfl) ?_
  refine o_nil ?_
  refine x_then (hK4 _ _ ?_)
  refine c_block ?_
  refine c_loop3 (fun (p : Nat) (out : List Bool) (S : Hp) => p ≤ N + 1 ∧ IsS out N (fromTo D P p) ∧ OwnS Ebo 1 4 (.slice (some ⟨b10, 0, none⟩) rs.length rs.length) out S) (fun (p : Nat) (out : List Bool) (S : Hp) => [(6, .int .i64 p)]) [(0, _), (1, _), (4, _), (5, _)] (fun (p : Nat) (out : List Bool) (S : Hp) => S) (fun (p : Nat) (out : List Bool) (S : Hp) => N + 1 - p) 0 _ _ ⟨by omega, by rw [hrl]; exact fromTo_zero, hS10⟩ sbA sbA hzB ?_
  rintro p out S ⟨hp, hi, hO⟩
  have hol := hi.len
  refine c_seq fun _ hK5 => ?_
  refine c_seq fun _ hK6 => ?_
  refine c_region ?_
  refine o_step rfl (s_move rfl) ?_
  refine o_step rfl (s_move rfl) ?_
  refine o_step rfl (s_len rfl) ?_
  by_cases hpp0 : p < pl.length
  ·
   obtain ⟨s, hs, his⟩ := hR.get p (by omega)
   have hrow := hw1.row s (List.mem_of_getElem? hs)
   have hrs := hrow.sl
   have hsl := his.len
   refine o_step rfl (step_cast (v' := .bool true) (s_lss rfl rfl) (by rw [decide_eq_true (by omega)])) ?_
   refine o_nil ?_
   refine x_then (hK6 _ _ ?_)
   refine c_true rfl ?_
   refine c_skip ?_
   refine x_then (hK5 _ _ ?_)
   refine c_seq fun _ hK7 => ?_
   refine c_block ?_
   refine c_seq fun _ hK8 => ?_
   refine c_region ?_
   refine o_step rfl (s_assign rfl) ?_
   refine o_nil ?_
   refine x_then (hK8 _ _ ?_)
   refine c_block ?_
   refine c_loop3 (fun (i : Nat) (out2 : List Bool) (S2 : Hp) => i ≤ N + 1 ∧ (i = 0 ∨ bo0 pl p = true) ∧ out2 = orTo out s.xs i ∧ OwnS Ebo 1 4 (.slice (some ⟨b10, 0, none⟩) rs.length rs.length) out2 S2) (fun (i : Nat) (out2 : List Bool) (S2 : Hp) => [(7, .int .i64 i)]) [(0, _), (1, _), (4, _), (5, _), (6, _), (11, _), (12, _), (13, _), (14, _)] (fun (i : Nat) (out2 : List Bool) (S2 : Hp) => S2) (fun (i : Nat) (out2 : List Bool) (S2 : Hp) => N + 1 - i) 0 out S ⟨by omega, .inl rfl, (orTo_zero _ _).symm, hO⟩ sbA sbA hzB ?_
   rintro i out2 S2 ⟨hi1, hi2, h2, hO2⟩
   have hO2l : out2.length = rs.length := by rw [h2, orTo_len]; omega
   have hO2s := hO2.sl
   rw [hO2l] at hO2s
   refine c_seq fun _ hK9 => ?_
   refine c_seq fun _ hK10 => ?_
   refine c_region ?_
   refine o_step rfl (s_move rfl) ?_
   refine o_step rfl (s_move rfl) ?_
   refine o_step rfl (s_idx rfl rfl hsp (by omega)) ?_
   by_cases hpp : bo0 pl p = true
   ·
    refine o_step rfl (step_cast (v' := .bool true) (s_ld rfl ((RdK.old0 hw2).ld p 0 (bo0_get (by omega)) rfl (by decide) (by omega))) (by rw [hpp])) ?_
    refine o_step rfl (s_move rfl) ?_
    refine o_yes rfl rfl ?_
    refine o_step rfl (s_move rfl) ?_
    refine o_yes rfl rfl ?_
    refine o_step rfl (s_move rfl) ?_
    refine o_yes rfl rfl ?_
    refine o_step rfl (s_len rfl) ?_
    refine o_yes rfl rfl ?_
    by_cases hin : i < rs.length
    ·
     have hget : out2[i]? = some (bo0 out i) := by rw [h2, orTo_get (by omega), if_neg (by omega)]
     refine o_step rfl (step_cast (v' := .bool true) (s_lss rfl rfl) (by rw [decide_eq_true (by omega)])) ?_
     refine o_step rfl (s_pick_t rfl rfl) ?_
     refine o_nil ?_
     refine x_then (hK10 _ _ ?_)
     refine c_true rfl ?_
     refine c_skip ?_
     refine x_then (hK9 _ _ ?_)
     refine c_seq fun _ hK11 => ?_
     refine c_block ?_
     refine c_region ?_
     refine o_step rfl (s_move rfl) ?_
     refine o_step rfl (s_move rfl) ?_
     refine o_step rfl (s_move rfl) ?_
     refine o_step rfl (s_move rfl) ?_
     refine o_step rfl (s_idx rfl rfl hO2s (by omega)) ?_
     by_cases hoi : bo0 out i = true
     ·
      refine o_step rfl (step_cast (v' := .bool true) (s_ld rfl ((hO2.rdk hiA).ld i 0 hget rfl (by decide) (by omega))) (by rw [hoi])) ?_
      refine o_step rfl (s_move rfl) ?_
      refine o_no rfl rfl rfl rfl ?_
      refine o_no rfl rfl rfl rfl ?_
      refine o_no rfl rfl rfl rfl ?_
      refine o_no rfl rfl rfl rfl ?_
      refine o_no rfl rfl rfl rfl ?_
      refine o_no rfl rfl rfl rfl ?_
      refine o_no rfl rfl rfl rfl ?_
      refine o_step rfl (s_pick_t rfl rfl) ?_
      refine o_step rfl (s_idx rfl rfl hO2s (by omega)) ?_
      refine o_stS1 i _ hO2 pkA rfl rfl rfl (by omega) (by omega) fun S' hS' => ?_
      refine o_nil ?_
      refine x_block ?_
      refine x_then (hK11 _ _ ?_)
      refine c_region ?_
      refine o_step rfl (s_move rfl) ?_
      refine o_step rfl (s_add rfl rfl (by omega)) ?_
      refine o_step rfl (s_assign rfl) ?_
      refine o_nil ?_
      exact x_then (x_inv (i + 1, _, _) ⟨by omega, .inr hpp, by rw [h2, ← orTo_set (by omega : i < out.length)]; simp [orF, hoi], hS'⟩ (by first | omega | (dsimp only; omega)) sbA hzB)
     ·
      have hoif : bo0 out i = false := by simpa using hoi
      refine o_step rfl (step_cast (v' := .bool false) (s_ld rfl ((hO2.rdk hiA).ld i 0 hget rfl (by decide) (by omega))) (by rw [hoif])) ?_
      refine o_step rfl (s_move rfl) ?_
      refine o_yes rfl rfl ?_
      refine o_step rfl (s_move rfl) ?_
      refine o_yes rfl rfl ?_
      refine o_step rfl (s_move rfl) ?_
      refine o_yes rfl rfl ?_
      refine o_step rfl (s_idx rfl rfl hsr (by omega)) ?_
      refine o_yes rfl rfl ?_
      refine o_step rfl (step_cast (v' := .slice s.a s.xs.length s.c) (s_ld rfl ((RdK.old0 hw1.out).ld p 0 hs rfl (by decide) (by omega))) rfl) ?_
      refine o_yes rfl rfl ?_
      refine o_step rfl (s_move rfl) ?_
      refine o_yes rfl rfl ?_
      refine o_step rfl (s_idx rfl rfl hrs (by omega)) ?_
      refine o_yes rfl rfl ?_
      refine o_step rfl (s_ld rfl ((RdK.old0 hrow).ld i 0 (bo0_get (by omega)) rfl (by decide) (by omega))) ?_
      refine o_step rfl (s_pick_f rfl rfl) ?_
      refine o_step rfl (s_idx rfl rfl hO2s (by omega)) ?_
      refine o_stS1 i _ hO2 pkA rfl rfl rfl (by omega) (by omega) fun S' hS' => ?_
      refine o_nil ?_
      refine x_block ?_
      refine x_then (hK11 _ _ ?_)
      refine c_region ?_
      refine o_step rfl (s_move rfl) ?_
      refine o_step rfl (s_add rfl rfl (by omega)) ?_
      refine o_step rfl (s_assign rfl) ?_
      refine o_nil ?_
      exact x_then (x_inv (i + 1, _, _) ⟨by omega, .inr hpp, by rw [h2, ← orTo_set (by omega : i < out.length)]; simp [orF, hoif], hS'⟩ (by first | omega | (dsimp only; omega)) sbA hzB)
    ·
     refine o_step rfl (step_cast (v' := .bool false) (s_lss rfl rfl) (by rw [decide_eq_false (by omega)])) ?_
     refine o_step rfl (s_pick_t rfl rfl) ?_
     refine o_nil ?_
     refine x_then (hK10 _ _ ?_)
     refine c_false rfl ?_
     refine c_exit ?_
     refine x_then_exit ?_
     refine x_then_exit ?_
     refine x_block_exit ?_
     refine x_block ?_
     refine x_then (hK7 _ _ ?_)
     refine c_region ?_
     refine o_step rfl (s_move rfl) ?_
     refine o_step rfl (s_add rfl rfl (by omega)) ?_
     refine o_step rfl (s_assign rfl) ?_
     refine o_nil ?_
     exact x_then (x_inv (p + 1, out2, S2) ⟨by omega, by rw [h2, show i = out.length by omega, orTo_all]; exact fromTo_yes hi his ((hP.get p (by omega)).1 (bo0_true.1 hpp)), hO2⟩ (by first | omega | (dsimp only; omega)) sbA hzB)
   ·
    have hppf : bo0 pl p = false := by simpa using hpp
    refine o_step rfl (step_cast (v' := .bool false) (s_ld rfl ((RdK.old0 hw2).ld p 0 (bo0_get (by omega)) rfl (by decide) (by omega))) (by rw [hppf])) ?_
    refine o_step rfl (s_move rfl) ?_
    refine o_no rfl rfl rfl rfl ?_
    refine o_no rfl rfl rfl rfl ?_
    refine o_no rfl rfl rfl rfl ?_
    refine o_no rfl rfl rfl rfl ?_
    refine o_step rfl (s_pick_f rfl rfl) ?_
    refine o_nil ?_
    refine x_then (hK10 _ _ ?_)
    refine c_false rfl ?_
    refine c_exit ?_
    refine x_then_exit ?_
    refine x_then_exit ?_
    refine x_block_exit ?_
    refine x_block ?_
    refine x_then (hK7 _ _ ?_)
    refine c_region ?_
    refine o_step rfl (s_move rfl) ?_
    refine o_step rfl (s_add rfl rfl (by omega)) ?_
    refine o_step rfl (s_assign rfl) ?_
    refine o_nil ?_
    exact x_then (x_inv (p + 1, out2, S2) ⟨by omega, by rw [h2, show i = 0 from hi2.elim id fun h => absurd h hpp, orTo_zero]; exact fromTo_no hi fun h => hpp (bo0_true.2 ((hP.get p (by omega)).2 h)), hO2⟩ (by first | omega | (dsimp only; omega)) sbA hzB)
  ·
   obtain rfl : p = N + 1 := by omega
   refine o_step rfl (step_cast (v' := .bool false) (s_lss rfl rfl) (by rw [decide_eq_false (by omega)])) ?_
   refine o_nil ?_
   refine x_then (hK6 _ _ ?_)
   refine c_false rfl ?_
   refine c_exit ?_
   refine x_then_exit ?_
   refine x_then_exit ?_
   refine x_block_exit ?_
   refine x_then (hK3 _ _ ?_)
   refine c_seq fun _ hK12 => ?_
   refine c_region ?_
   refine o_step rfl (s_move rfl) ?_
   refine o_step rfl (s_assign rfl) ?_
   refine o_nil ?_
   refine x_then (hK12 _ _ ?_)
   refine c_ret ?_
   refine ?_
   refine x_sub (Sub.refl _) (H' := S) hzB ?_
   exact x_ret rfl (.tmp rfl (.nil)) (⟨_, _, out, by rw [show out.length = rs.length by omega]; rfl, by rw [show out.length = rs.length by omega]; exact hO, fromTo_all hi hPb⟩)

theorem either_fn (a1 a2 : Option Addr) (c1 c2 : Nat) (l1 l2 : List Bool) (hl : l2.length = l1.length) (hb : l1.length ≤ 2000000) : HL.Fn Try.prog 25 [.slice a1 l1.length c1, .slice a2 l2.length c2] (fun w => Rd Ebo w (.slice a1 l1.length c1) l1 ∧ Rd Ebo w (.slice a2 l2.length c2) l2) [] (fun v S' => ∃ a c, v = .slice a (orL l1 l2).length c ∧ OwnS Ebo 1 4 (.slice a (orL l1 l2).length c) (orL l1 l2) S') := by
  refine fn_of Try.func25 rfl rfl rfl fun w0 hw => ?_
  obtain ⟨h1, h2⟩ := hw
  have hs1 := h1.sl
  have hs2 := h2.sl
  have hol := orL_len l1 l2
  refine c_seq fun _ hK1 => ?_
  refine c_region ?_
  refine o_step rfl (s_assign rfl) ?_
  refine o_nil ?_
  refine x_then (hK1 _ _ ?_)
  refine c_seq fun _ hK2 => ?_
  refine c_region ?_
  refine o_step rfl (s_move rfl) ?_
  refine o_step rfl (s_len rfl) ?_
  refine o_make (E := Ebo) (zx := false) (n := l1.length) rfl rfl rfl (by omega) (by omega) rfl fun b9 S9 hS9 => ?_
  refine o_step rfl (s_assign rfl) ?_
  refine o_nil ?_
  refine x_then (hK2 _ _ ?_)
  refine c_seq fun _ hK3 => ?_
  refine c_seq fun _ hK4 => ?_
  refine c_region ?_
  refine o_step rfl (s_assign rfl) ?_
  refine o_nil ?_
  refine x_then (hK4 _ _ ?_)
  refine c_block ?_
  refine c_loop3 (fun (j : Nat) (l : List Bool) (S : Hp) => j ≤ l1.length ∧ Tab.Fill (orF l1 l2) l1.length j l ∧ OwnS Ebo 1 4 (.slice (some ⟨b9, 0, none⟩) l1.length l1.length) l S) (fun (j : Nat) (l : List Bool) (S : Hp) => [(6, .int .i64 j)]) [(0, _), (1, _), (4, _), (5, _)] (fun (j : Nat) (l : List Bool) (S : Hp) => S) (fun (j : Nat) (l : List Bool) (S : Hp) => l1.length - j) 0 _ _ ⟨by omega, .zero List.length_replicate, hS9⟩ sbA sbA hzB ?_
  rintro j l S ⟨hj, hf, hS⟩
  have hSl := hS.sl
  rw [hf.len] at hSl
  refine c_seq fun _ hK5 => ?_
  refine c_seq fun _ hK6 => ?_
  refine c_region ?_
  refine o_step rfl (s_move rfl) ?_
  refine o_step rfl (s_move rfl) ?_
  refine o_step rfl (s_len rfl) ?_
  by_cases hj1 : j < l1.length
  ·
   have hj2 : j < l2.length := by omega
   refine o_step rfl (step_cast (v' := .bool true) (s_lss rfl rfl) (by rw [decide_eq_true (by omega)])) ?_
   refine o_nil ?_
   refine x_then (hK6 _ _ ?_)
   refine c_true rfl ?_
   refine c_skip ?_
   refine x_then (hK5 _ _ ?_)
   refine c_seq fun _ hK7 => ?_
   refine c_block ?_
   refine c_region ?_
   refine o_step rfl (s_move rfl) ?_
   refine o_step rfl (s_move rfl) ?_
   refine o_step rfl (s_move rfl) ?_
   refine o_step rfl (s_move rfl) ?_
   refine o_step rfl (s_idx rfl rfl hs1 (by omega)) ?_
   by_cases ha : bo0 l1 j = true
   ·
    refine o_step rfl (step_cast (v' := .bool true) (s_ld rfl ((RdK.old0 h1).ld j 0 (bo0_get hj1) rfl (by decide) (by omega))) (by rw [ha])) ?_
    refine o_step rfl (s_move rfl) ?_
    refine o_no rfl rfl rfl rfl ?_
    refine o_no rfl rfl rfl rfl ?_
    refine o_no rfl rfl rfl rfl ?_
    refine o_no rfl rfl rfl rfl ?_
    refine o_step rfl (s_pick_t rfl rfl) ?_
    refine o_step rfl (s_idx rfl rfl hSl (by omega)) ?_
    refine o_stS1 j _ hS pkA rfl rfl rfl (by rw [hf.len]; omega) (by omega) fun S' hS' => ?_
    refine o_nil ?_
    refine x_block ?_
    refine x_then (hK7 _ _ ?_)
    refine c_region ?_
    refine o_step rfl (s_move rfl) ?_
    refine o_step rfl (s_add rfl rfl (by omega)) ?_
    refine o_step rfl (s_assign rfl) ?_
    refine o_nil ?_
    exact x_then (x_inv (j + 1, _, _) ⟨by omega, hf.step (by omega) (by rw [orF, ha]; rfl), hS'⟩ (by first | omega | (dsimp only; omega)) sbA hzB)
   ·
    have haf : bo0 l1 j = false := by simpa using ha
    refine o_step rfl (step_cast (v' := .bool false) (s_ld rfl ((RdK.old0 h1).ld j 0 (bo0_get hj1) rfl (by decide) (by omega))) (by rw [haf])) ?_
    refine o_step rfl (s_move rfl) ?_
    refine o_yes rfl rfl ?_
    refine o_step rfl (s_move rfl) ?_
    refine o_yes rfl rfl ?_
    refine o_step rfl (s_move rfl) ?_
    refine o_yes rfl rfl ?_
    refine o_step rfl (s_idx rfl rfl hs2 (by omega)) ?_
    refine o_yes rfl rfl ?_
    refine o_step rfl (s_ld rfl ((RdK.old0 h2).ld j 0 (bo0_get hj2) rfl (by decide) (by omega))) ?_
    refine o_step rfl (s_pick_f rfl rfl) ?_
    refine o_step rfl (s_idx rfl rfl hSl (by omega)) ?_
    refine o_stS1 j _ hS pkA rfl rfl rfl (by rw [hf.len]; omega) (by omega) fun S' hS' => ?_
    refine o_nil ?_
    refine x_block ?_
    refine x_then (hK7 _ _ ?_)
    refine c_region ?_
    refine o_step rfl (s_move rfl) ?_
    refine o_step rfl (s_add rfl rfl (by omega)) ?_
    refine o_step rfl (s_assign rfl) ?_
    refine o_nil ?_
    exact x_then (x_inv (j + 1, _, _) ⟨by omega, hf.step (by omega) (by rw [orF, haf]; rfl), hS'⟩ (by first | omega | (dsimp only; omega)) sbA hzB)
  ·
   obtain rfl : j = l1.length := by omega
   have hd : l = orL l1 l2 := hf.done (Nat.le_refl _)
   subst hd
   refine o_step rfl (step_cast (v' := .bool false) (s_lss rfl rfl) (by rw [decide_eq_false (by omega)])) ?_
   refine o_nil ?_
   refine x_then (hK6 _ _ ?_)
   refine c_false rfl ?_
   refine c_exit ?_
   refine x_then_exit ?_
   refine x_then_exit ?_
   refine x_block_exit ?_
   refine x_then (hK3 _ _ ?_)
   refine c_seq fun _ hK8 => ?_
   refine c_region ?_
   refine o_step rfl (s_move rfl) ?_
   refine o_step rfl (s_assign rfl) ?_
   refine o_nil ?_
   refine x_then (hK8 _ _ ?_)
   refine c_ret ?_
   refine ?_
   refine x_sub (Sub.refl _) (H' := S) hzB ?_
   exact x_ret rfl (.tmp rfl (.nil)) (⟨_, _, by rw [hol]; rfl, by rw [hol]; exact hS⟩)

set_option maxHeartbeats 1000000 in
theorem again_fn (ra : Option Addr) (rc : Nat) (rs : List (Sl Bool)) (N : Nat) (D : Nat → Nat → Prop) (hR : RowsP rs N D) (hN : N ≤ 1000000) (hD : Inn N D) (p : Nat) (hp : p ≤ N) : HL.Fn Try.prog 26 [.slice ra rs.length rc, .int .i64 p] (fun W => RdRows W (.slice ra rs.length rc) rs) [] (fun v S' => ∃ a c out, v = .slice a out.length c ∧ OwnS Ebo 1 4 (.slice a out.length c) out S' ∧ IsS out N (fun q => ∃ k, pow D k p q)) := by
  refine fn_of Try.func26 rfl rfl rfl fun w0 hw => ?_
  have hw1 := hw
  have hsr := hw1.out.sl
  have hrl := hR.len
  refine c_seq fun _ hK1 => ?_
  refine c_region ?_
  refine o_step rfl (s_assign rfl) ?_
  refine o_nil ?_
  refine x_then (hK1 _ _ ?_)
  refine c_seq fun _ hK2 => ?_
  refine c_region ?_
  refine o_step rfl (s_move rfl) ?_
  refine o_step rfl (s_len rfl) ?_
  refine o_make (E := Ebo) (zx := false) (n := rs.length) rfl rfl rfl (by omega) (by omega) rfl fun b11 S11 hS11 => ?_
  have hS11s := hS11.sl
  rw [List.length_replicate] at hS11s
  refine o_step rfl (s_assign rfl) ?_
  refine o_nil ?_
  refine x_then (hK2 _ _ ?_)
  refine c_seq fun _ hK3 => ?_
  refine c_region ?_
  refine o_step rfl (s_move rfl) ?_
  refine o_step rfl (s_move rfl) ?_
  refine o_step rfl (s_idx rfl rfl hS11s (by omega)) ?_
  refine o_stS1 p true hS11 pkA rfl rfl rfl (by simp; omega) (by omega) fun Sx hSx => ?_
  refine o_nil ?_
  refine x_then (hK3 _ _ ?_)
  refine c_seq fun _ hK4 => ?_
  refine c_region ?_
  refine o_step rfl (s_move rfl) ?_
  refine o_bs (E := Eix) (xs := [p]) (vs := [_]) rfl rfl rfl rfl rfl (by decide) (by decide) fun b16 S16 hS16 => ?_
  refine o_step rfl (s_assign rfl) ?_
  refine o_nil ?_
  refine x_then (hK4 _ _ ?_)
  refine c_seq fun _ hK5 => ?_
  refine c_block ?_
  refine c_loop4 (fun (out : List Bool) (S : Hp) (q : Sl Nat) (Sd : Hp) => AgP N D p out q.xs ∧ unseen out + q.xs.length ≤ N + 2 ∧ OwnS Ebo 1 4 (.slice (some ⟨b11, 0, none⟩) rs.length rs.length) out S ∧ OwnS Eix 1 3 (.slice q.a q.xs.length q.c) q.xs Sd) (fun (out : List Bool) (S : Hp) (q : Sl Nat) (Sd : Hp) => [(6, .slice q.a q.xs.length q.c)]) [(0, _), (4, _), (5, _)] (fun (out : List Bool) (S : Hp) (q : Sl Nat) (Sd : Hp) => S ++ Sd) (fun (out : List Bool) (S : Hp) (q : Sl Nat) (Sd : Hp) => unseen out + q.xs.length) _ Sx ⟨some ⟨b16, 0, none⟩, 1, [p]⟩ S16 ⟨.start hp, by have := unseen_le ((List.replicate (N + 1) false).set p true); simp at this ⊢; omega, by rw [← hrl]; exact hSx, hS16⟩ sbA sbA hzB ?_
  rintro out S q Sd ⟨hA, hct, hO, hQ⟩
  have hQs := hQ.sl
  have hol := hA.len
  refine c_seq fun _ hK6 => ?_
  refine c_seq fun _ hK7 => ?_
  refine c_region ?_
  refine o_step rfl (s_move rfl) ?_
  refine o_step rfl (s_len rfl) ?_
  by_cases hpos : (q.xs.length : Int) > 0
  ·
   obtain ⟨tl, t, htd⟩ := last_split (show 0 < q.xs.length by omega)
   have htdl : q.xs.length = tl.length + 1 := by rw [htd]; simp
   have hK : AgK N D p t 0 out tl := by rw [htd] at hA; exact hA.pop
   have htN : t < N + 1 := by have := (List.getElem?_eq_some_iff.1 hK.tt).1; omega
   obtain ⟨s, hs, his⟩ := hR.get t (by omega)
   have hrow := hw1.row s (List.mem_of_getElem? hs)
   have hrs := hrow.sl
   have hsl := his.len
   have hD1 := hQ.pre tl.length (by omega)
   rw [show q.xs.take tl.length = tl by rw [htd]; simp] at hD1
   obtain ⟨_, cx, hcx, hccl, _⟩ := hQs.out
   have hcx2 : cx = q.c := by cases hcx; rfl
   refine o_step rfl (step_cast (v' := .bool true) (s_gtr rfl rfl) (by rw [decide_eq_true (by omega)])) ?_
   refine o_nil ?_
   refine x_then (hK7 _ _ ?_)
   refine c_true rfl ?_
   refine c_skip ?_
   refine x_then (hK6 _ _ ?_)
   refine c_block ?_
   refine c_seq fun _ hK8 => ?_
   refine c_region ?_
   refine o_step rfl (s_move rfl) ?_
   refine o_step rfl (s_move rfl) ?_
   refine o_step rfl (s_len rfl) ?_
   refine o_step rfl (s_sub rfl rfl (by omega)) ?_
   refine o_step rfl (s_idx rfl rfl hQs (by omega)) ?_
   refine o_step rfl (s_ld rfl ((hQ.rdk hiA).ld tl.length 0 (show q.xs[tl.length]? = some t by rw [htd]; simp) rfl (by decide) (by omega))) ?_
   refine o_step rfl (s_assign rfl) ?_
   refine o_nil ?_
   refine x_then (hK8 _ _ ?_)
   refine c_seq fun _ hK9 => ?_
   refine c_region ?_
   refine o_step rfl (s_move rfl) ?_
   refine o_step rfl (s_move rfl) ?_
   refine o_step rfl (s_len rfl) ?_
   refine o_step rfl (s_sub rfl rfl (by omega)) ?_
   refine o_step rfl (step_cast (v' := .slice q.a tl.length q.c) (s_slice_hi rfl rfl (by omega)) (by rw [show ((q.xs.length : Int) - 1).toNat = tl.length by omega])) ?_
   refine o_step rfl (s_assign rfl) ?_
   refine o_nil ?_
   refine x_then (hK9 _ _ ?_)
   refine c_seq fun _ hK10 => ?_
   refine c_region ?_
   refine o_step rfl (s_assign rfl) ?_
   refine o_nil ?_
   refine x_then (hK10 _ _ ?_)
   refine c_block ?_
   refine c_loop5 (fun (k : Nat) (o2 : List Bool) (S2 : Hp) (q2 : Sl Nat) (Sd2 : Hp) => k ≤ N + 1 ∧ AgK N D p t k o2 q2.xs ∧ unseen o2 + q2.xs.length = unseen out + tl.length ∧ OwnS Ebo 1 4 (.slice (some ⟨b11, 0, none⟩) rs.length rs.length) o2 S2 ∧ OwnS Eix 1 3 (.slice q2.a q2.xs.length q2.c) q2.xs Sd2) (fun (k : Nat) (o2 : List Bool) (S2 : Hp) (q2 : Sl Nat) (Sd2 : Hp) => [(8, .int .i64 k), (6, .slice q2.a q2.xs.length q2.c)]) [(0, _), (4, _), (5, _), (7, _), (17, _), (18, _), (19, _), (20, _), (21, _), (22, _), (23, _), (24, _), (25, _), (26, _), (27, _), (28, _), (29, _), (30, _)] (fun (k : Nat) (o2 : List Bool) (S2 : Hp) (q2 : Sl Nat) (Sd2 : Hp) => S2 ++ Sd2) (fun (k : Nat) (o2 : List Bool) (S2 : Hp) (q2 : Sl Nat) (Sd2 : Hp) => N + 1 - k) 0 out S ⟨q.a, q.c, tl⟩ Sd ⟨by omega, hK, rfl, hO, hD1⟩ sbA sbA hzB ?_
   rintro k o2 S2 q2 Sd2 ⟨hk, hK2, hct2, hO2, hQ2⟩
   have hO2l := hK2.len
   have hO2s := hO2.sl
   rw [hO2l, ← hrl] at hO2s
   refine c_seq fun _ hK11 => ?_
   refine c_seq fun _ hK12 => ?_
   refine c_region ?_
   refine o_step rfl (s_move rfl) ?_
   refine o_step rfl (s_move rfl) ?_
   refine o_step rfl (s_len rfl) ?_
   by_cases hkl : k < rs.length
   ·
    refine o_step rfl (step_cast (v' := .bool true) (s_lss rfl rfl) (by rw [decide_eq_true (by omega)])) ?_
    refine o_nil ?_
    refine x_then (hK12 _ _ ?_)
    refine c_true rfl ?_
    refine c_skip ?_
    refine x_then (hK11 _ _ ?_)
    refine c_seq fun _ hK13 => ?_
    refine c_block ?_
    refine c_seq fun _ hK14 => ?_
    refine c_region ?_
    refine o_step rfl (s_move rfl) ?_
    refine o_step rfl (s_move rfl) ?_
    refine o_step rfl (s_idx rfl rfl hsr (by omega)) ?_
    refine o_step rfl (step_cast (v' := .slice s.a s.xs.length s.c) (s_ld rfl ((RdK.old0 hw1.out).ld t 0 hs rfl (by decide) (by omega))) rfl) ?_
    refine o_step rfl (s_move rfl) ?_
    refine o_step rfl (s_idx rfl rfl hrs (by omega)) ?_
    by_cases hr : bo0 s.xs k = true
    ·
     refine o_step rfl (step_cast (v' := .bool true) (s_ld rfl ((RdK.old0 hrow).ld k 0 (bo0_get (by omega)) rfl (by decide) (by omega))) (by rw [hr])) ?_
     refine o_step rfl (s_move rfl) ?_
     refine o_yes rfl rfl ?_
     refine o_step rfl (s_move rfl) ?_
     refine o_yes rfl rfl ?_
     refine o_step rfl (s_move rfl) ?_
     refine o_yes rfl rfl ?_
     refine o_step rfl (s_idx rfl rfl hO2s (by omega)) ?_
     refine o_yes rfl rfl ?_
     by_cases ho : bo0 o2 k = true
     ·
      refine o_step rfl (step_cast (v' := .bool true) (s_ld rfl ((hO2.rdk hiA).ld k 0 (bo0_get (by omega)) rfl (by decide) (by omega))) (by rw [ho])) ?_
      refine o_yes rfl rfl ?_
      refine o_step rfl (s_not rfl) ?_
      refine o_step rfl (s_pick_t rfl rfl) ?_
      refine o_nil ?_
      refine x_then (hK14 _ _ ?_)
      refine c_false rfl ?_
      refine c_skip ?_
      refine x_block ?_
      refine x_then (hK13 _ _ ?_)
      refine c_region ?_
      refine o_step rfl (s_move rfl) ?_
      refine o_step rfl (s_add rfl rfl (by omega)) ?_
      refine o_step rfl (s_assign rfl) ?_
      refine o_nil ?_
      exact x_then (x_inv (k + 1, o2, S2, q2, Sd2) ⟨by omega, hK2.no fun _ => bo0_true.1 ho, hct2, hO2, hQ2⟩ (by first | omega | (dsimp only; omega)) sbA hzB)
     ·
      have hof : bo0 o2 k = false := by simpa using ho
      refine o_step rfl (step_cast (v' := .bool false) (s_ld rfl ((hO2.rdk hiA).ld k 0 (bo0_get (by omega)) rfl (by decide) (by omega))) (by rw [hof])) ?_
      refine o_yes rfl rfl ?_
      refine o_step rfl (s_not rfl) ?_
      refine o_step rfl (s_pick_t rfl rfl) ?_
      refine o_nil ?_
      refine x_then (hK14 _ _ ?_)
      refine c_true rfl ?_
      refine c_seq fun _ hK15 => ?_
      refine c_region ?_
      refine o_step rfl (s_move rfl) ?_
      refine o_step rfl (s_move rfl) ?_
      refine o_step rfl (s_idx rfl rfl hO2s (by omega)) ?_
      refine o_stS1 k true hO2 pkA rfl rfl rfl (by omega) (by omega) fun S' hS' => ?_
      refine o_nil ?_
      refine x_then (hK15 _ _ ?_)
      refine c_region ?_
      refine o_step rfl (s_move rfl) ?_
      refine o_step rfl (s_move rfl) ?_
      refine o_bs (E := Eix) (xs := [k]) (vs := [_]) rfl rfl rfl rfl rfl (by decide) (by decide) fun b56 S56 hS56 => ?_
      refine o_app hQ2 (hS56.rdk hiA) rfl rfl rfl rfl (by simp only [List.length_cons, List.length_nil]; omega) (by simp only [List.length_cons, List.length_nil]; omega) rfl pkA fun a57 c57 S57 hS57 => ?_
      refine o_step rfl (s_assign rfl) ?_
      refine o_nil ?_
      refine x_block ?_
      refine x_then (hK13 _ _ ?_)
      refine c_region ?_
      refine o_step rfl (s_move rfl) ?_
      refine o_step rfl (s_add rfl rfl (by omega)) ?_
      refine o_step rfl (s_assign rfl) ?_
      refine o_nil ?_
      exact x_then (x_inv (k + 1, (o2.set k true), S', ⟨a57, c57, q2.xs ++ [k]⟩, S57) ⟨by omega, hK2.yes (by omega) ((his.get k (by omega)).1 (bo0_true.1 hr)), by have := unseen_set o2 k (by rw [bo0_get (by omega), hof]); simp only [List.length_append, List.length_cons, List.length_nil]; omega, hS', hS57⟩ (by first | omega | (dsimp only; omega)) sbA hzB)
    ·
     have hrf : bo0 s.xs k = false := by simpa using hr
     refine o_step rfl (step_cast (v' := .bool false) (s_ld rfl ((RdK.old0 hrow).ld k 0 (bo0_get (by omega)) rfl (by decide) (by omega))) (by rw [hrf])) ?_
     refine o_step rfl (s_move rfl) ?_
     refine o_no rfl rfl rfl rfl ?_
     refine o_no rfl rfl rfl rfl ?_
     refine o_no rfl rfl rfl rfl ?_
     refine o_no rfl rfl rfl rfl ?_
     refine o_no rfl rfl rfl rfl ?_
     refine o_step rfl (s_pick_f rfl rfl) ?_
     refine o_nil ?_
     refine x_then (hK14 _ _ ?_)
     refine c_false rfl ?_
     refine c_skip ?_
     refine x_block ?_
     refine x_then (hK13 _ _ ?_)
     refine c_region ?_
     refine o_step rfl (s_move rfl) ?_
     refine o_step rfl (s_add rfl rfl (by omega)) ?_
     refine o_step rfl (s_assign rfl) ?_
     refine o_nil ?_
     exact x_then (x_inv (k + 1, o2, S2, q2, Sd2) ⟨by omega, hK2.no fun h => absurd (bo0_true.2 ((his.get k (by omega)).2 h)) hr, hct2, hO2, hQ2⟩ (by first | omega | (dsimp only; omega)) sbA hzB)
   ·
    refine o_step rfl (step_cast (v' := .bool false) (s_lss rfl rfl) (by rw [decide_eq_false (by omega)])) ?_
    refine o_nil ?_
    refine x_then (hK12 _ _ ?_)
    refine c_false rfl ?_
    refine c_exit ?_
    refine x_then_exit ?_
    refine x_then_exit ?_
    refine x_block_exit ?_
    refine x_block ?_
    exact x_then (x_inv (o2, S2, q2, Sd2) ⟨hK2.done (by omega), by dsimp only; omega, hO2, hQ2⟩ (by rw [htdl]; dsimp only; omega) sbA hzB)
  ·
   have hxe : q.xs = [] := List.eq_nil_of_length_eq_zero (by omega)
   rw [hxe] at hA
   refine o_step rfl (step_cast (v' := .bool false) (s_gtr rfl rfl) (by rw [decide_eq_false (by omega)])) ?_
   refine o_nil ?_
   refine x_then (hK7 _ _ ?_)
   refine c_false rfl ?_
   refine c_exit ?_
   refine x_then_exit ?_
   refine x_then_exit ?_
   refine x_block_exit ?_
   refine x_then (hK5 _ _ ?_)
   refine c_seq fun _ hK16 => ?_
   refine c_region ?_
   refine o_step rfl (s_move rfl) ?_
   refine o_step rfl (s_assign rfl) ?_
   refine o_nil ?_
   refine x_then (hK16 _ _ ?_)
   refine c_ret ?_
   refine ?_
   refine x_sub (Sub.refl _) (H' := S) hzB ?_
   exact x_ret rfl (.tmp rfl (.nil)) (⟨_, _, out, by rw [show out.length = rs.length by omega]; rfl, by rw [show out.length = rs.length by omega]; exact hO, hA.done hD hp⟩)
end Go.Proofs.Ytihbhlgognpmmaa

/- Part of the proofs over this seat: see the text that holds the theorem. Conditions: each theorem bears its own. -/
namespace Go.Proofs.Ytihbhlgognpmmaa
open Go Go.HL Go.Proofs Go.HL.Kl Go.HL.Kl.Mc
theorem copyNodes_fn (ba : Option Addr) (bc : Nat) (b : List Nd) (hb : b.length ≤ 70000) : HL.Fn Try.prog 53 [.slice ba b.length bc] (fun w => Rd En w (.slice ba b.length bc) b) [] (fun v S' => ∃ a c, v = .slice a b.length c ∧ OwnS En 9 46 (.slice a b.length c) b S') := by
  refine fn_of Try.func53 rfl rfl rfl fun w0 hw => ?_
  refine c_seq fun _ hK1 => ?_
  refine c_region ?_
  refine o_step rfl (s_assign rfl) ?_
  refine o_nil ?_
  refine x_then (hK1 _ _ ?_)
  refine c_seq fun _ hK2 => ?_
  refine c_region ?_
  refine o_step rfl (s_assign rfl) ?_
  refine o_nil ?_
  refine x_then (hK2 _ _ ?_)
  refine c_seq fun _ hK3 => ?_
  refine c_region ?_
  refine o_step rfl (s_move rfl) ?_
  refine o_step rfl (s_move rfl) ?_
  refine o_app OwnS.nil (RdK.old0 hw) rfl rfl rfl rfl (by simp; omega) (by simp; omega) rfl pkA fun a6 c6 S6 hS6 => ?_
  simp only [List.nil_append] at hS6
  refine o_step rfl (s_assign rfl) ?_
  refine o_nil ?_
  refine x_then (hK3 _ _ ?_)
  refine c_ret ?_
  refine ?_
  refine x_sub (Sub.refl _) (H' := S6) hzB ?_
  exact x_ret rfl (.tmp rfl (.nil)) (⟨_, _, rfl, hS6⟩)

theorem groups_fn (ra : Option Addr) (rc : Nat) (re : List Nd) (hre : ∀ x ∈ re, -128 ≤ x.op ∧ x.op < 128) : HL.Fn Try.prog 45 [.slice ra re.length rc] (fun w => Rd En w (.slice ra re.length rc) re) [] (fun v _ => ∃ n : Nat, n ≤ re.length ∧ v = .int .i64 n) := by
  refine fn_of Try.func45 rfl rfl rfl fun w0 hw => ?_
  have hsl := hw.sl
  have hbl := hsl.le
  refine c_seq fun _ hK1 => ?_
  refine c_region ?_
  refine o_step rfl (s_assign rfl) ?_
  refine o_nil ?_
  refine x_then (hK1 _ _ ?_)
  refine c_seq fun _ hK2 => ?_
  refine c_seq fun _ hK3 => ?_
  refine c_region ?_
  refine o_step rfl (s_move rfl) ?_
  refine o_callP (rShaped_fn ra rc re hre) rfl rfl rfl (fun w st => (RdK.old0 hw).out w st) (fun v6 hv6 => ?_)
  subst hv6
  cases hsb : shapedB re
  ·
   refine o_step rfl (s_not rfl) ?_
   refine o_nil ?_
   refine x_then (hK3 _ _ ?_)
   refine c_true rfl ?_
   refine c_seq fun _ hK4 => ?_
   refine c_region ?_
   refine o_step rfl (s_assign rfl) ?_
   refine o_nil ?_
   refine x_then (hK4 _ _ ?_)
   refine c_ret ?_
   refine x_then_ret (?_)
   exact x_ret rfl (.tmp rfl (.nil)) (⟨0, by omega, rfl⟩)
  ·
   refine o_step rfl (s_not rfl) ?_
   refine o_nil ?_
   refine x_then (hK3 _ _ ?_)
   refine c_false rfl ?_
   refine c_skip ?_
   refine x_then (hK2 _ _ ?_)
   refine c_seq fun _ hK5 => ?_
   refine c_region ?_
   refine o_step rfl (s_assign rfl) ?_
   refine o_nil ?_
   refine x_then (hK5 _ _ ?_)
   refine c_seq fun _ hK6 => ?_
   refine c_seq fun _ hK7 => ?_
   refine c_region ?_
   refine o_step rfl (s_assign rfl) ?_
   refine o_nil ?_
   refine x_then (hK7 _ _ ?_)
   refine c_block ?_
   refine c_loop2 (fun (j : Nat) (n : Nat) => j ≤ re.length ∧ n ≤ j) (fun (j : Nat) (n : Nat) => [(4, .int .i64 j), (3, .int .i64 n)]) [(0, _), (2, _)] (fun (j : Nat) (n : Nat) => _) (fun (j : Nat) (n : Nat) => re.length - j) 0 0 ⟨by omega, by omega⟩ sbA sbA hzB ?_
   rintro j n ⟨hj, hn⟩
   refine c_seq fun _ hK8 => ?_
   refine c_seq fun _ hK9 => ?_
   refine c_region ?_
   refine o_step rfl (s_move rfl) ?_
   refine o_step rfl (s_move rfl) ?_
   refine o_step rfl (s_len rfl) ?_
   by_cases hjl : j < re.length
   ·
    obtain ⟨x, hx⟩ : ∃ x, re[j]? = some x := ⟨_, List.getElem?_eq_getElem hjl⟩
    have hox := hre x (List.mem_of_getElem? hx)
    refine o_step rfl (step_cast (v' := .bool true) (s_lss rfl rfl) (by rw [decide_eq_true (by omega)])) ?_
    refine o_nil ?_
    refine x_then (hK9 _ _ ?_)
    refine c_true rfl ?_
    refine c_skip ?_
    refine x_then (hK8 _ _ ?_)
    refine c_seq fun _ hK10 => ?_
    refine c_block ?_
    refine c_seq fun _ hK11 => ?_
    refine c_region ?_
    refine o_step rfl (s_move rfl) ?_
    refine o_step rfl (s_move rfl) ?_
    refine o_step rfl (s_idx rfl rfl hsl (by omega)) ?_
    refine o_step rfl (s_field rfl rfl (by decide)) ?_
    refine o_step rfl (s_ld rfl ((RdK.old0 hw).ld j 0 hx rfl (by decide) (by omega))) ?_
    refine o_step rfl (s_convI rfl (by omega)) ?_
    by_cases h7 : x.op = 7
    ·
     refine o_step rfl (step_cast (v' := .bool true) (s_eql rfl rfl) (by rw [decide_eq_true h7])) ?_
     refine o_nil ?_
     refine x_then (hK11 _ _ ?_)
     refine c_true rfl ?_
     refine c_region ?_
     refine o_step rfl (s_move rfl) ?_
     refine o_step rfl (s_add rfl rfl (by omega)) ?_
     refine o_step rfl (s_assign rfl) ?_
     refine o_nil ?_
     refine x_block ?_
     refine x_then (hK10 _ _ ?_)
     refine c_region ?_
     refine o_step rfl (s_move rfl) ?_
     refine o_step rfl (s_add rfl rfl (by omega)) ?_
     refine o_step rfl (s_assign rfl) ?_
     refine o_nil ?_
     exact x_then (x_inv (j + 1, n + 1) ⟨by omega, by dsimp only; omega⟩ (by first | omega | (dsimp only; omega)) sbA hzB)
    ·
     refine o_step rfl (step_cast (v' := .bool false) (s_eql rfl rfl) (by rw [decide_eq_false h7])) ?_
     refine o_nil ?_
     refine x_then (hK11 _ _ ?_)
     refine c_false rfl ?_
     refine c_skip ?_
     refine x_block ?_
     refine x_then (hK10 _ _ ?_)
     refine c_region ?_
     refine o_step rfl (s_move rfl) ?_
     refine o_step rfl (s_add rfl rfl (by omega)) ?_
     refine o_step rfl (s_assign rfl) ?_
     refine o_nil ?_
     exact x_then (x_inv (j + 1, n) ⟨by omega, by dsimp only; omega⟩ (by first | omega | (dsimp only; omega)) sbA hzB)
   ·
    refine o_step rfl (step_cast (v' := .bool false) (s_lss rfl rfl) (by rw [decide_eq_false (by omega)])) ?_
    refine o_nil ?_
    refine x_then (hK9 _ _ ?_)
    refine c_false rfl ?_
    refine c_exit ?_
    refine x_then_exit ?_
    refine x_then_exit ?_
    refine x_block_exit ?_
    refine x_then (hK6 _ _ ?_)
    refine c_seq fun _ hK12 => ?_
    refine c_region ?_
    refine o_step rfl (s_move rfl) ?_
    refine o_step rfl (s_assign rfl) ?_
    refine o_nil ?_
    refine x_then (hK12 _ _ ?_)
    refine c_ret ?_
    refine ?_
    exact x_ret rfl (.tmp rfl (.nil)) (⟨n, by omega, rfl⟩)

set_option maxHeartbeats 1000000 in
theorem moved_fn (ba : Option Addr) (bc : Nat) (b : List Nd) (hb : b.length ≤ 70000) (g : Nat) : HL.Fn Try.prog 44 [.slice ba b.length bc, .int .i64 g] (fun w => Rd En w (.slice ba b.length bc) b) [] (fun v S' => ∃ a c, v = .slice a (b.map (mvN g)).length c ∧ OwnS En 9 46 (.slice a (b.map (mvN g)).length c) (b.map (mvN g)) S') := by
  refine fn_of Try.func44 rfl rfl rfl fun w0 hw => ?_
  have hml : (b.map (mvN g)).length = b.length := by simp
  refine c_seq fun _ hK1 => ?_
  refine c_region ?_
  refine o_step rfl (s_assign rfl) ?_
  refine o_nil ?_
  refine x_then (hK1 _ _ ?_)
  refine c_seq fun _ hK2 => ?_
  refine c_region ?_
  refine o_step rfl (s_move rfl) ?_
  refine o_call (copyNodes_fn ba bc b hb) rfl rfl rfl (by exact .nil) (fun w st => (RdK.old0 hw).out w st) (fun v8 S8 ⟨a8, c8, hv8, hS8⟩ => ?_)
  subst hv8
  refine o_step rfl (s_assign rfl) ?_
  refine o_nil ?_
  refine x_then (hK2 _ _ ?_)
  refine c_seq fun _ hK3 => ?_
  refine c_seq fun _ hK4 => ?_
  refine c_region ?_
  refine o_step rfl (s_assign rfl) ?_
  refine o_nil ?_
  refine x_then (hK4 _ _ ?_)
  refine c_block ?_
  refine c_loop2 (fun (j : Nat) (S : Hp) => j ≤ b.length ∧ OwnS En 9 46 (.slice a8 b.length c8) (mvTo g b j) S) (fun (j : Nat) (S : Hp) => [(6, .int .i64 j)]) [(1, _), (4, _), (5, _)] (fun (j : Nat) (S : Hp) => S) (fun (j : Nat) (S : Hp) => b.length - j) 0 S8 ⟨by omega, by rw [mvTo_zero]; exact hS8⟩ sbA sbA hzB ?_
  rintro j S ⟨hj, hS⟩
  have hSs := hS.sl
  rw [mvTo_len] at hSs
  refine c_seq fun _ hK5 => ?_
  refine c_seq fun _ hK6 => ?_
  refine c_region ?_
  refine o_step rfl (s_move rfl) ?_
  refine o_step rfl (s_move rfl) ?_
  refine o_step rfl (s_len rfl) ?_
  by_cases hjl : j < b.length
  ·
   obtain ⟨x, hx⟩ : ∃ x, b[j]? = some x := ⟨_, List.getElem?_eq_getElem hjl⟩
   have hxj := mvTo_get (g := g) hx
   refine o_step rfl (step_cast (v' := .bool true) (s_lss rfl rfl) (by rw [decide_eq_true (by omega)])) ?_
   refine o_nil ?_
   refine x_then (hK6 _ _ ?_)
   refine c_true rfl ?_
   refine c_skip ?_
   refine x_then (hK5 _ _ ?_)
   refine c_seq fun _ hK7 => ?_
   refine c_block ?_
   refine c_seq fun _ hK8 => ?_
   refine c_region ?_
   refine o_step rfl (s_move rfl) ?_
   refine o_step rfl (s_move rfl) ?_
   refine o_step rfl (s_idx rfl rfl hSs (by omega)) ?_
   refine o_step rfl (s_field rfl rfl (by decide)) ?_
   refine o_step rfl (s_ld rfl ((hS.rdk hiA).ld j 5 hxj rfl (by decide) (by omega))) ?_
   by_cases hn : 0 < x.n
   ·
    refine o_step rfl (step_cast (v' := .bool true) (s_gtr rfl rfl) (by rw [decide_eq_true (by omega)])) ?_
    refine o_nil ?_
    refine x_then (hK8 _ _ ?_)
    refine c_true rfl ?_
    refine c_region ?_
    refine o_step rfl (s_move rfl) ?_
    refine o_step rfl (s_move rfl) ?_
    refine o_step rfl (s_move rfl) ?_
    refine o_step rfl (s_move rfl) ?_
    refine o_step rfl (s_idx rfl rfl hSs (by omega)) ?_
    refine o_step rfl (s_field rfl rfl (by decide)) ?_
    refine o_step rfl (s_ld rfl ((hS.rdk hiA).ld j 5 hxj rfl (by decide) (by omega))) ?_
    refine o_step rfl (s_move rfl) ?_
    refine o_step rfl (s_addw rfl rfl) ?_
    refine o_step rfl (s_idx rfl rfl hSs (by omega)) ?_
    refine o_step rfl (s_field rfl rfl (by decide)) ?_
    refine o_stS (i := j) (off := 5) (cs := [.int .i64 (IntKind.i64.wrap (x.n + g))]) (mvN g x) hS pkA rfl rfl rfl rfl (by rw [mvTo_len]; omega) (by first | rfl | (rw [Int.toNat_natCast]; first | done | rfl)) (by simp) (fun e he => by rw [hxj] at he; cases he; rw [mvN, if_pos hn]; rfl) (by simp [Value.oneCell']) fun S' hS' => ?_
    refine o_nil ?_
    refine x_block ?_
    refine x_then (hK7 _ _ ?_)
    refine c_region ?_
    refine o_step rfl (s_move rfl) ?_
    refine o_step rfl (s_add rfl rfl (by omega)) ?_
    refine o_step rfl (s_assign rfl) ?_
    refine o_nil ?_
    exact x_then (x_inv (j + 1, S') ⟨by omega, by dsimp only; rw [← mvTo_set hx]; exact hS'⟩ (by first | omega | (dsimp only; omega)) sbA hzB)
   ·
    refine o_step rfl (step_cast (v' := .bool false) (s_gtr rfl rfl) (by rw [decide_eq_false (by omega)])) ?_
    refine o_nil ?_
    refine x_then (hK8 _ _ ?_)
    refine c_false rfl ?_
    refine c_skip ?_
    refine x_block ?_
    refine x_then (hK7 _ _ ?_)
    refine c_region ?_
    refine o_step rfl (s_move rfl) ?_
    refine o_step rfl (s_add rfl rfl (by omega)) ?_
    refine o_step rfl (s_assign rfl) ?_
    refine o_nil ?_
    exact x_then (x_inv (j + 1, S) ⟨by omega, by dsimp only; rw [← mvTo_skip hx hn]; exact hS⟩ (by first | omega | (dsimp only; omega)) sbA hzB)
  ·
   obtain rfl : j = b.length := by omega
   rw [mvTo_all] at hS
   refine o_step rfl (step_cast (v' := .bool false) (s_lss rfl rfl) (by rw [decide_eq_false (by omega)])) ?_
   refine o_nil ?_
   refine x_then (hK6 _ _ ?_)
   refine c_false rfl ?_
   refine c_exit ?_
   refine x_then_exit ?_
   refine x_then_exit ?_
   refine x_block_exit ?_
   refine x_then (hK3 _ _ ?_)
   refine c_seq fun _ hK9 => ?_
   refine c_region ?_
   refine o_step rfl (s_move rfl) ?_
   refine o_step rfl (s_assign rfl) ?_
   refine o_nil ?_
   refine x_then (hK9 _ _ ?_)
   refine c_ret ?_
   refine ?_
   refine x_sub (Sub.refl _) (H' := S) hzB ?_
   exact x_ret rfl (.tmp rfl (.nil)) (⟨_, _, by rw [hml]; rfl, by rw [hml]; exact hS⟩)

theorem two_fn (n : Nd) (aa : Option Addr) (ac : Nat) (a : List Nd) (hra : ∀ x ∈ a, -128 ≤ x.op ∧ x.op < 128) (ba : Option Addr) (bc : Nat) (b : List Nd) (hl : a.length + b.length ≤ 65536) : HL.Fn Try.prog 22 [.agg (En n).toArray, .slice aa a.length ac, .slice ba b.length bc] (fun w => Rd En w (.slice aa a.length ac) a ∧ Rd En w (.slice ba b.length bc) b) [] (fun v S' => ∃ g c d, v = .slice c (twoL n a b g).length d ∧ OwnS En 9 46 (.slice c (twoL n a b g).length d) (twoL n a b g) S') := by
  refine fn_of Try.func22 rfl rfl rfl fun w0 hw => ?_
  refine c_seq fun _ hK1 => ?_
  refine c_region ?_
  refine o_box rfl rfl rfl fun b3 => ?_
  refine o_step rfl (s_assign rfl) ?_
  refine o_nil ?_
  refine x_then (hK1 _ _ ?_)
  refine c_seq fun _ hK2 => ?_
  refine c_region ?_
  refine o_step rfl (s_ldB rfl (RdPK.cels (.own meA)) (by rfl)) ?_
  refine o_bs (E := En) (xs := [n]) (vs := [_]) rfl rfl rfl rfl rfl (by decide) (by decide) fun b9 S9 hS9 => ?_
  refine o_step rfl (s_assign rfl) ?_
  refine o_nil ?_
  refine x_then (hK2 _ _ ?_)
  refine c_seq fun _ hK3 => ?_
  refine c_region ?_
  refine o_step rfl (s_move rfl) ?_
  refine o_step rfl (s_move rfl) ?_
  refine o_app hS9 (RdK.old0 hw.1) rfl rfl rfl rfl (by simp; omega) (by simp; omega) rfl pkA fun a12 c12 S12 hS12 => ?_
  refine o_step rfl (s_assign rfl) ?_
  refine o_nil ?_
  refine x_then (hK3 _ _ ?_)
  refine c_seq fun _ hK4 => ?_
  refine c_region ?_
  refine o_step rfl (s_move rfl) ?_
  refine o_step rfl (s_move rfl) ?_
  refine o_step rfl (s_move rfl) ?_
  refine o_callP (groups_fn aa ac a hra) rfl rfl rfl (fun w st => (RdK.old0 hw.1).out w st) (fun v16 ⟨g, hg, hv16⟩ => ?_)
  subst hv16
  refine o_call (moved_fn ba bc b (by omega) g) rfl rfl rfl (by exact .nil) (fun w st => (RdK.old0 hw.2).out w st) (fun v17 S17 ⟨a17, c17, hv17, hS17⟩ => ?_)
  subst hv17
  refine o_app hS12 (hS17.rdk hiA) rfl rfl rfl rfl (by simp; omega) (by simp; omega) rfl pkA fun a18 c18 S18 hS18 => ?_
  refine o_step rfl (s_assign rfl) ?_
  refine o_nil ?_
  refine x_then (hK4 _ _ ?_)
  refine c_ret ?_
  refine ?_
  refine x_sub (Sub.refl _) (H' := S18) hzB ?_
  have hfin : [n] ++ a ++ b.map (mvN g) = twoL n a b g := by simp [twoL]
  rw [hfin] at hS18
  exact x_ret rfl (.tmp rfl (.nil)) (⟨g, _, _, by rw [← hfin]; rfl, hS18⟩)
end Go.Proofs.Ytihbhlgognpmmaa
