/- Part of the proofs over this seat: see the text that holds the theorem. Conditions: each theorem bears its own. -/
import Derived.Test.YtiggliigookieaaMK8Z
import Derived.Test.YtiggliigookieaaKN22
namespace Go.Proofs.Ytiggliigookieaa
open Go Go.HL Go.Proofs Go.HL.Kl Go.HL.Kl.Mc Go.HL.Kl.Mc.AskE
theorem bestL {T : Nat} {re : List Nd} {w : List UInt8} {x : Nd} {ks : F} {g p q : Nat} {L : List Sp} {v : Value} {S' : Hp} (hm : May re w x ks) (hl : Lft w x ks g p q) (h : BestP T re w p q v S') (hL : capsV w re x ks p q = L) : ∃ a cc, v = .tuple #[.slice a L.length cc, .bool true] ∧ OwnS Esp 2 T (.slice a L.length cc) L S' := by
  subst hL
  rcases h with ⟨x2, ks2, p2, q2, hm2, h1, h2, _, _, _, h3⟩ | ⟨hn, _⟩
  · obtain ⟨rfl, rfl⟩ := hm.hs.uniq hm2.hs
    obtain rfl : p = p2 := by omega
    obtain rfl : q = q2 := by omega
    exact h3
  · exact absurd ⟨x, ks, p, q, hm, rfl, rfl, hl.le, hl.len, hl.der⟩ hn
set_option maxHeartbeats 4000000 in
theorem captureLongest_fn (ra : Option Addr) (rc : Nat) (re : List Nd) (hre : ∀ x ∈ re, -128 ≤ x.op ∧ x.op < 128) (ta : Option Addr) (tc : Nat) (w : List UInt8) (f : Int) : HL.Fn Try.prog 4 [.slice ra re.length rc, .slice ta w.length tc, .int .i64 f] (fun W => Rd En W (.slice ra re.length rc) re ∧ Rd Eb W (.slice ta w.length tc) w) [] (fun v _ => v = .bool true) := by
  refine fn_of Try.func4 rfl rfl rfl fun w0 hw => ?_
  have hsl := hw.1.sl
  have hbl := hsl.le
  refine c_seq fun _ hK1 => ?_
  refine c_region ?_
  refine o_step rfl (s_assign rfl) ?_
  refine o_nil ?_
  refine x_then (hK1 _ _ ?_)
  refine c_seq fun _ hK2 => ?_
  refine c_region ?_
  refine o_callP (works_fn) rfl rfl rfl (fun _ _ => trivial) (fun v16 hv16 => ?_)
  subst hv16
  refine o_step rfl (s_assign rfl) ?_
  refine o_nil ?_
  refine x_then (hK2 _ _ ?_)
  refine c_seq fun _ hK3 => ?_
  refine c_seq fun _ hK4 => ?_
  refine c_region ?_
  refine o_step rfl (s_move rfl) ?_
  refine o_callP (beyond_fn ra rc re hre) rfl rfl rfl (fun w2 st => (RdK.old0 hw.1).out w2 st) (fun v18 ⟨b18, hv18⟩ => ?_)
  subst hv18
  cases b18
  ·
   refine o_step rfl (s_move rfl) ?_
   refine o_yes rfl rfl ?_
   refine o_step rfl (s_move rfl) ?_
   refine o_yes rfl rfl ?_
   refine o_step rfl (s_len rfl) ?_
   refine o_yes rfl rfl ?_
   by_cases htl : (w.length : Int) > 1024
   ·
    refine o_step rfl (step_cast (v' := .bool true) (s_gtr rfl rfl) (by rw [decide_eq_true (by omega)])) ?_
    refine o_step rfl (s_pick_f rfl rfl) ?_
    refine o_nil ?_
    refine x_then (hK4 _ _ ?_)
    refine c_true rfl ?_
    refine c_seq fun _ hK5 => ?_
    refine c_region ?_
    refine o_step rfl (s_move rfl) ?_
    refine o_step rfl (s_assign rfl) ?_
    refine o_nil ?_
    refine x_then (hK5 _ _ ?_)
    refine c_ret ?_
    refine x_then_ret (?_)
    exact x_ret rfl (.tmp rfl (.nil)) (rfl)
   ·
    refine o_step rfl (step_cast (v' := .bool false) (s_gtr rfl rfl) (by rw [decide_eq_false (by omega)])) ?_
    refine o_step rfl (s_pick_f rfl rfl) ?_
    refine o_nil ?_
    refine x_then (hK4 _ _ ?_)
    refine c_false rfl ?_
    refine c_skip ?_
    refine x_then (hK3 _ _ ?_)
    refine c_seq fun _ hK6 => ?_
    refine c_region ?_
    refine o_step rfl (s_move rfl) ?_
    refine o_step rfl (s_move rfl) ?_
    refine o_call (short_fn ra rc re hre ta tc w (by omega) 3 2097152 (by decide) (by decide)) rfl rfl rfl (by exact .nil) (fun w2 st => ⟨(RdK.old0 hw.1).out w2 st, (RdK.old0 hw.2).out w2 st⟩) (fun v27 S27 ⟨n, a27, c27, hv27, hS27⟩ => ?_)
    subst hv27
    have hwn : (w.take n).length ≤ 1024 := by rw [List.length_take]; omega
    refine o_step rfl (s_assign rfl) ?_
    refine o_nil ?_
    refine x_then (hK6 _ _ ?_)
    refine c_seq fun _ hK7 => ?_
    refine c_region ?_
    refine o_step rfl (s_move rfl) ?_
    refine o_step rfl (s_move rfl) ?_
    refine o_step rfl (s_move rfl) ?_
    refine o_call (find_fn ra rc re hre a27 c27 (w.take n) (by omega) f) rfl rfl rfl (by exact .nil) (fun w2 st => ⟨(RdK.old0 hw.1).out w2 st, (hS27.rdk hiA).out w2 st⟩) (fun v32 S32 hv32 => ?_)
    rcases hv32 with ⟨x, ks, g, p, q, hm, hg, hl, a32, cc32, rfl, hO32⟩ | ⟨hn32, rfl, rfl⟩
    ·
     obtain rfl : f = g := hg
     have hmx := hm.hs
     have hsb := hm.sh
     have hr8 := no_refs hm.sh hm.rf
     have hle := hl.le
     have hcl := capsV_len (w := (w.take n)) (re := re) (x := x) (ks := ks) (p := p) (q := q)
     obtain ⟨_, hc0⟩ := caps_nst hm hl.der
     have hnl := @nest_law re (w.take n) x ks p q hm hl.der
     have hgl : gcn re ≤ re.length := List.countP_le_length
     have hCs := hO32.sl
     generalize hL : capsV (w.take n) re x ks p q = L at hcl hc0 hnl hO32 hCs ⊢
     have hlg := hl.ge
     have hll2 := hl.len
     refine o_step rfl (s_move rfl) ?_
     refine o_step rfl (s_extract rfl rfl) ?_
     refine o_step rfl (s_extract rfl rfl) ?_
     refine o_step rfl (s_assign rfl) ?_
     refine o_step rfl (s_assign rfl) ?_
     refine o_nil ?_
     refine x_then (hK7 _ _ ?_)
     refine c_seq fun _ hK8 => ?_
     refine c_seq fun _ hK9 => ?_
     refine c_region ?_
     refine o_step rfl (s_move rfl) ?_
     refine o_callP (may_fn ra rc re hre) rfl rfl rfl (fun w2 st => (RdK.old0 hw.1).out w2 st) (fun v36 hv36 => ?_)
     rw [hm.sh, hm.rf] at hv36
     subst hv36
     refine o_step rfl (s_not rfl) ?_
     refine o_step rfl (s_move rfl) ?_
     refine o_yes rfl rfl ?_
     refine o_step rfl (s_move rfl) ?_
     refine o_yes rfl rfl ?_
     refine o_step rfl (s_lss_f rfl rfl (by omega)) ?_
     refine o_step rfl (s_pick_f rfl rfl) ?_
     refine o_step rfl (s_move rfl) ?_
     refine o_yes rfl rfl ?_
     refine o_step rfl (s_move rfl) ?_
     refine o_yes rfl rfl ?_
     refine o_step rfl (s_move rfl) ?_
     refine o_yes rfl rfl ?_
     refine o_step rfl (s_len rfl) ?_
     refine o_yes rfl rfl ?_
     refine o_step rfl (s_gtr_f rfl rfl (by omega)) ?_
     refine o_step rfl (s_pick_f rfl rfl) ?_
     refine o_nil ?_
     refine x_then (hK9 _ _ ?_)
     refine c_false rfl ?_
     refine c_skip ?_
     refine x_then (hK8 _ _ ?_)
     refine c_seq fun _ hK10 => ?_
     refine c_region ?_
     refine o_step rfl (s_move rfl) ?_
     refine o_step rfl (s_len rfl) ?_
     refine o_step rfl (s_add rfl rfl (by omega)) ?_
     refine o_step rfl (s_assign rfl) ?_
     refine o_nil ?_
     refine x_then (hK10 _ _ ?_)
     refine c_seq fun _ hK11 => ?_
     refine c_seq fun _ hK12 => ?_
     refine c_region ?_
     refine o_step rfl (s_move rfl) ?_
     refine o_nil ?_
     refine x_then (hK12 _ _ ?_)
     refine c_true rfl ?_
     refine c_seq fun _ hK13 => ?_
     refine c_seq fun _ hK14 => ?_
     refine c_drawE (S32) (fun i => false) ?_
     refine e_take 0 rfl (by kernel_rfl) (by kernel_rfl) (by kernel_rfl) (by kernel_rfl) (fun _ _ => rfl) rfl hzB (s_move rfl) ?_
     refine e_take 1 rfl (by kernel_rfl) (by kernel_rfl) (by kernel_rfl) (by kernel_rfl) (fun _ _ => rfl) rfl hzB (s_len rfl) ?_
     refine e_take 2 rfl (by kernel_rfl) (by kernel_rfl) (by kernel_rfl) (by kernel_rfl) (fun _ _ => rfl) rfl hzB (s_eql_f rfl rfl (by omega)) ?_
     refine e_take 3 rfl (by kernel_rfl) (by kernel_rfl) (by kernel_rfl) (by kernel_rfl) (fun _ _ => rfl) rfl hzB (s_move rfl) ?_
     refine e_take 4 rfl (by kernel_rfl) (by kernel_rfl) (by kernel_rfl) (by kernel_rfl) (fun _ fr => by rw [wanted_of fr rfl rfl rfl]; rfl) rfl hzB (s_move rfl) ?_
     refine e_take 5 rfl (by kernel_rfl) (by kernel_rfl) (by kernel_rfl) (by kernel_rfl) (fun _ fr => by rw [wanted_of fr rfl rfl rfl]; rfl) rfl hzB (s_idx rfl rfl hCs (by omega)) ?_
     refine e_take 6 rfl (by kernel_rfl) (by kernel_rfl) (by kernel_rfl) (by kernel_rfl) (fun _ fr => by rw [wanted_of fr rfl rfl rfl]; rfl) rfl hzB (s_field rfl rfl (by decide)) ?_
     refine e_take 7 rfl (by kernel_rfl) (by kernel_rfl) (by kernel_rfl) (by kernel_rfl) (fun _ fr => by rw [wanted_of fr rfl rfl rfl]; rfl) rfl hzB (s_ld rfl (((hO32.rdk hiA).ld 0 0 hc0 rfl (by decide) (by rfl) : Cel _ _ _ (.int .i64 (p : Int))))) ?_
     refine e_take 8 rfl (by kernel_rfl) (by kernel_rfl) (by kernel_rfl) (by kernel_rfl) (fun _ fr => by rw [wanted_of fr rfl rfl rfl]; rfl) rfl hzB (s_move rfl) ?_
     refine e_take 9 rfl (by kernel_rfl) (by kernel_rfl) (by kernel_rfl) (by kernel_rfl) (fun _ fr => by rw [wanted_of fr rfl rfl rfl]; rfl) rfl hzB (s_lss_f rfl rfl (by omega)) ?_
     refine e_take 10 rfl (by kernel_rfl) (by kernel_rfl) (by kernel_rfl) (by kernel_rfl) (fun _ _ => rfl) rfl hzB (s_pick_f rfl rfl) ?_
     refine e_take 11 rfl (by kernel_rfl) (by kernel_rfl) (by kernel_rfl) (by kernel_rfl) (fun _ _ => rfl) rfl hzB (s_move rfl) ?_
     refine e_take 12 rfl (by kernel_rfl) (by kernel_rfl) (by kernel_rfl) (by kernel_rfl) (fun _ fr => by rw [wanted_of fr rfl rfl rfl]; rfl) rfl hzB (s_move rfl) ?_
     refine e_take 13 rfl (by kernel_rfl) (by kernel_rfl) (by kernel_rfl) (by kernel_rfl) (fun _ fr => by rw [wanted_of fr rfl rfl rfl]; rfl) rfl hzB (s_idx rfl rfl hCs (by omega)) ?_
     refine e_take 14 rfl (by kernel_rfl) (by kernel_rfl) (by kernel_rfl) (by kernel_rfl) (fun _ fr => by rw [wanted_of fr rfl rfl rfl]; rfl) rfl hzB (s_field rfl rfl (by decide)) ?_
     refine e_take 15 rfl (by kernel_rfl) (by kernel_rfl) (by kernel_rfl) (by kernel_rfl) (fun _ fr => by rw [wanted_of fr rfl rfl rfl]; rfl) rfl hzB (s_ld rfl (((hO32.rdk hiA).ld 0 1 hc0 rfl (by decide) (by rfl) : Cel _ _ _ (.int .i64 (q : Int))))) ?_
     refine e_take 16 rfl (by kernel_rfl) (by kernel_rfl) (by kernel_rfl) (by kernel_rfl) (fun _ fr => by rw [wanted_of fr rfl rfl rfl]; rfl) rfl hzB (s_move rfl) ?_
     refine e_take 17 rfl (by kernel_rfl) (by kernel_rfl) (by kernel_rfl) (by kernel_rfl) (fun _ fr => by rw [wanted_of fr rfl rfl rfl]; rfl) rfl hzB (s_len rfl) ?_
     refine e_take 18 rfl (by kernel_rfl) (by kernel_rfl) (by kernel_rfl) (by kernel_rfl) (fun _ fr => by rw [wanted_of fr rfl rfl rfl]; rfl) rfl hzB (s_gtr_f rfl rfl (by omega)) ?_
     refine e_take 19 rfl (by kernel_rfl) (by kernel_rfl) (by kernel_rfl) (by kernel_rfl) (fun _ _ => rfl) rfl hzB (s_pick_f rfl rfl) ?_
     refine e_take 20 rfl (by kernel_rfl) (by kernel_rfl) (by kernel_rfl) (by kernel_rfl) (fun _ _ => rfl) rfl hzB (s_move rfl) ?_
     refine e_take 21 rfl (by kernel_rfl) (by kernel_rfl) (by kernel_rfl) (by kernel_rfl) (fun _ fr => by rw [wanted_of fr rfl rfl rfl]; rfl) rfl hzB (s_move rfl) ?_
     refine e_take 22 rfl (by kernel_rfl) (by kernel_rfl) (by kernel_rfl) (by kernel_rfl) (fun _ fr => by rw [wanted_of fr rfl rfl rfl]; rfl) rfl hzB (s_idx rfl rfl hCs (by omega)) ?_
     refine e_take 23 rfl (by kernel_rfl) (by kernel_rfl) (by kernel_rfl) (by kernel_rfl) (fun _ fr => by rw [wanted_of fr rfl rfl rfl]; rfl) rfl hzB (s_field rfl rfl (by decide)) ?_
     refine e_take 24 rfl (by kernel_rfl) (by kernel_rfl) (by kernel_rfl) (by kernel_rfl) (fun _ fr => by rw [wanted_of fr rfl rfl rfl]; rfl) rfl hzB (s_ld rfl (((hO32.rdk hiA).ld 0 0 hc0 rfl (by decide) (by rfl) : Cel _ _ _ (.int .i64 (p : Int))))) ?_
     refine e_take 25 rfl (by kernel_rfl) (by kernel_rfl) (by kernel_rfl) (by kernel_rfl) (fun _ fr => by rw [wanted_of fr rfl rfl rfl]; rfl) rfl hzB (s_move rfl) ?_
     refine e_take 26 rfl (by kernel_rfl) (by kernel_rfl) (by kernel_rfl) (by kernel_rfl) (fun _ fr => by rw [wanted_of fr rfl rfl rfl]; rfl) rfl hzB (s_idx rfl rfl hCs (by omega)) ?_
     refine e_take 27 rfl (by kernel_rfl) (by kernel_rfl) (by kernel_rfl) (by kernel_rfl) (fun _ fr => by rw [wanted_of fr rfl rfl rfl]; rfl) rfl hzB (s_field rfl rfl (by decide)) ?_
     refine e_take 28 rfl (by kernel_rfl) (by kernel_rfl) (by kernel_rfl) (by kernel_rfl) (fun _ fr => by rw [wanted_of fr rfl rfl rfl]; rfl) rfl hzB (s_ld rfl (((hO32.rdk hiA).ld 0 1 hc0 rfl (by decide) (by rfl) : Cel _ _ _ (.int .i64 (q : Int))))) ?_
     refine e_take 29 rfl (by kernel_rfl) (by kernel_rfl) (by kernel_rfl) (by kernel_rfl) (fun _ fr => by rw [wanted_of fr rfl rfl rfl]; rfl) rfl hzB (s_gtr_f rfl rfl (by omega)) ?_
     refine e_take 30 rfl (by kernel_rfl) (by kernel_rfl) (by kernel_rfl) (by kernel_rfl) (fun _ _ => rfl) rfl hzB (s_pick_f rfl rfl) ?_
     refine e_done (by kernel_rfl) ?_
     refine x_then (hK14 _ _ ?_)
     refine c_false rfl ?_
     refine c_skip ?_
     refine x_then (hK13 _ _ ?_)
     refine c_region ?_
     refine o_step rfl (s_move rfl) ?_
     refine o_step rfl (s_idx rfl rfl hCs (by omega)) ?_
     refine o_step rfl (s_field rfl rfl (by decide)) ?_
     refine o_step rfl (s_ld rfl (((hO32.rdk hiA).ld 0 0 hc0 rfl (by decide) (by rfl) : Cel _ _ _ (.int .i64 (p : Int))))) ?_
     refine o_step rfl (s_assign rfl) ?_
     refine o_nil ?_
     refine x_then (hK11 _ _ ?_)
     refine c_seq fun _ hK15 => ?_
     refine c_seq fun _ hK16 => ?_
     refine c_region ?_
     refine o_step rfl (s_move rfl) ?_
     refine o_step rfl (s_assign rfl) ?_
     refine o_nil ?_
     refine x_then (hK16 _ _ ?_)
     refine c_block ?_
     -- not carried: 6
     refine c_loopB (fun (i : Nat) => g ≤ i ∧ i ≤ p + 1) (fun (i : Nat) => [(11, .int .i64 i)]) [(0, _), (1, _), (7, _), (8, _), (9, _), (10, _)] (fun (i : Nat) => S32 ++ S27) (fun (i : Nat) => p + 1 - i) g ⟨by omega, by omega⟩ sbA sbA hzB ?_
     rintro i ⟨hi1, hi2⟩
     refine c_seq fun _ hK17 => ?_
     refine c_seq fun _ hK18 => ?_
     refine c_region ?_
     refine o_step rfl (s_move rfl) ?_
     refine o_step rfl (s_move rfl) ?_
     refine o_step rfl (s_len rfl) ?_
     by_cases hil : (i : Int) ≤ (w.take n).length
     ·
      refine o_step rfl (step_cast (v' := .bool true) (s_leq rfl rfl) (by rw [decide_eq_true (by omega)])) ?_
      refine o_step rfl (s_move rfl) ?_
      refine o_yes rfl rfl ?_
      refine o_step rfl (s_move rfl) ?_
      refine o_yes rfl rfl ?_
      refine o_step rfl (s_move rfl) ?_
      refine o_yes rfl rfl ?_
      by_cases hip : (i : Int) ≤ p
      ·
       refine o_step rfl (step_cast (v' := .bool true) (s_leq rfl rfl) (by rw [decide_eq_true (by omega)])) ?_
       refine o_step rfl (s_pick_t rfl rfl) ?_
       refine o_nil ?_
       refine x_then (hK18 _ _ ?_)
       refine c_true rfl ?_
       refine c_skip ?_
       refine x_then (hK17 _ _ ?_)
       refine c_seq fun _ hK19 => ?_
       refine c_block ?_
       refine c_seq fun _ hK20 => ?_
       refine c_region ?_
       refine o_step rfl (s_move rfl) ?_
       refine o_step rfl (s_move rfl) ?_
       refine o_step rfl (s_move rfl) ?_
       refine o_call (takes_fn ra rc re x ks hmx hre hr8 a27 c27 (w.take n) (by omega) i (by omega)) rfl rfl rfl (by exact .nil) (fun w2 st => ⟨(RdK.old0 hw.1).out w2 st, (hS27.rdk hiA).out w2 st⟩) (fun v112 S112 ⟨a112, c112, l, hv112, hIs, hO112⟩ => ?_)
       subst hv112
       have hll := hIs.len
       refine o_step rfl (s_assign rfl) ?_
       refine o_nil ?_
       refine x_then (hK20 _ _ ?_)
       refine c_seq fun _ hK21 => ?_
       refine c_seq fun _ hK22 => ?_
       refine c_region ?_
       refine o_step rfl (s_assign rfl) ?_
       refine o_nil ?_
       refine x_then (hK22 _ _ ?_)
       refine c_block ?_
       refine c_knw (p := IsSl (.slice a112 l.length c112) l.length) (fun w2 st => ((hO112.rdk hiA).out w2 st).sl) fun hls => ?_
       refine c_loopB (fun (j : Nat) => j ≤ l.length) (fun (j : Nat) => [(13, .int .i64 j)]) [(0, _), (1, _), (7, _), (8, _), (9, _), (10, _), (11, _), (12, _), (98, _), (99, _), (100, _), (101, _), (102, _), (103, _), (104, _), (105, _), (106, _), (109, _), (110, _), (111, _), (112, _)] (fun (j : Nat) => S112 ++ (S32 ++ S27)) (fun (j : Nat) => l.length - j) 0 (Nat.zero_le _) sbA sbA hzB ?_
       rintro j hj
       refine c_seq fun _ hK23 => ?_
       refine c_seq fun _ hK24 => ?_
       refine c_region ?_
       refine o_step rfl (s_move rfl) ?_
       refine o_step rfl (s_move rfl) ?_
       refine o_step rfl (s_len rfl) ?_
       by_cases hjl : j < l.length
       ·
        have hjl2 : j ≤ (w.take n).length := by omega
        have hjg := bo0_get hjl
        refine o_step rfl (step_cast (v' := .bool true) (s_lss rfl rfl) (by rw [decide_eq_true (by omega)])) ?_
        refine o_nil ?_
        refine x_then (hK24 _ _ ?_)
        refine c_true rfl ?_
        refine c_skip ?_
        refine x_then (hK23 _ _ ?_)
        refine c_seq fun _ hK25 => ?_
        refine c_block ?_
        refine c_seq fun _ hK26 => ?_
        refine c_region ?_
        refine o_step rfl (s_move rfl) ?_
        refine o_step rfl (s_move rfl) ?_
        refine o_step rfl (s_idx rfl rfl hls (by omega)) ?_
        by_cases hbt : bo0 l j = true
        ·
         have hdj := (hIs.get j hjl2).1 (bo0_true.1 hbt)
         have hie : i = p := Nat.le_antisymm (by omega) (Nat.le_of_not_lt fun h => hl.left i j (by omega) h hjl2 hdj)
         have hjq : j ≤ q := Nat.le_of_not_lt fun h => hl.long j h hjl2 (hie ▸ hdj)
         refine o_step rfl (step_cast (v' := .bool true) (s_ld rfl ((hO112.rdk hiA).ld j 0 hjg rfl (by decide) (by omega))) (by rw [hbt])) ?_
         refine o_step rfl (s_move rfl) ?_
         refine o_yes rfl rfl ?_
         refine o_step rfl (s_move rfl) ?_
         refine o_yes rfl rfl ?_
         refine o_step rfl (s_move rfl) ?_
         refine o_yes rfl rfl ?_
         refine o_step rfl (s_lss_f rfl rfl (by omega)) ?_
         refine o_yes rfl rfl ?_
         refine o_step rfl (s_move rfl) ?_
         refine o_yes rfl rfl ?_
         refine o_step rfl (s_move rfl) ?_
         refine o_yes rfl rfl ?_
         refine o_step rfl (s_move rfl) ?_
         refine o_yes rfl rfl ?_
         refine o_step rfl (s_idx rfl rfl hCs (by omega)) ?_
         refine o_yes rfl rfl ?_
         refine o_step rfl (s_field rfl rfl (by decide)) ?_
         refine o_yes rfl rfl ?_
         refine o_step rfl (s_ld rfl (((hO32.rdk hiA).ld 0 1 hc0 rfl (by decide) (by rfl) : Cel _ _ _ (.int .i64 (q : Int))))) ?_
         refine o_yes rfl rfl ?_
         refine o_step rfl (s_gtr_f rfl rfl (by omega)) ?_
         refine o_yes rfl rfl ?_
         refine o_step rfl (s_pick_f rfl rfl) ?_
         refine o_step rfl (s_pick_t rfl rfl) ?_
         refine o_nil ?_
         refine x_then (hK26 _ _ ?_)
         refine c_false rfl ?_
         refine c_skip ?_
         refine x_block ?_
         refine x_then (hK25 _ _ ?_)
         refine c_region ?_
         refine o_step rfl (s_move rfl) ?_
         refine o_step rfl (s_add rfl rfl (by omega)) ?_
         refine o_step rfl (s_assign rfl) ?_
         refine o_nil ?_
         exact x_then (x_inv (j + 1) (by omega) (by first | omega | (dsimp only; omega)) sbA hzB)
        ·
         have hbf : bo0 l j = false := by simpa using hbt
         refine o_step rfl (step_cast (v' := .bool false) (s_ld rfl ((hO112.rdk hiA).ld j 0 hjg rfl (by decide) (by omega))) (by rw [hbf])) ?_
         refine o_step rfl (s_move rfl) ?_
         refine o_no rfl rfl rfl rfl ?_
         refine o_no rfl rfl rfl rfl ?_
         refine o_no rfl rfl rfl rfl ?_
         refine o_no rfl rfl rfl rfl ?_
         refine o_noU rfl rfl rfl ?_
         refine o_noU rfl rfl rfl ?_
         refine o_noU rfl rfl rfl ?_
         refine o_noU rfl rfl rfl ?_
         refine o_noU rfl rfl rfl ?_
         refine o_noU rfl rfl rfl ?_
         refine o_no rfl rfl rfl rfl ?_
         refine o_step rfl (s_pick_f rfl rfl) ?_
         refine o_nil ?_
         refine x_then (hK26 _ _ ?_)
         refine c_false rfl ?_
         refine c_skip ?_
         refine x_block ?_
         refine x_then (hK25 _ _ ?_)
         refine c_region ?_
         refine o_step rfl (s_move rfl) ?_
         refine o_step rfl (s_add rfl rfl (by omega)) ?_
         refine o_step rfl (s_assign rfl) ?_
         refine o_nil ?_
         exact x_then (x_inv (j + 1) (by omega) (by first | omega | (dsimp only; omega)) sbA hzB)
       ·
        refine o_step rfl (step_cast (v' := .bool false) (s_lss rfl rfl) (by rw [decide_eq_false (by omega)])) ?_
        refine o_nil ?_
        refine x_then (hK24 _ _ ?_)
        refine c_false rfl ?_
        refine c_exit ?_
        refine x_then_exit ?_
        refine x_then_exit ?_
        refine x_block_exit ?_
        refine x_then (hK21 _ _ ?_)
        refine c_seq fun _ hK27 => ?_
        refine c_region ?_
        refine o_step rfl (s_move rfl) ?_
        refine o_step rfl (s_move rfl) ?_
        by_cases hie : (i : Int) = p
        ·
         obtain rfl : i = p := by omega
         have hlq := (hIs.get q hll2).2 hl.der
         refine o_step rfl (step_cast (v' := .bool true) (s_eql rfl rfl) (by rw [decide_eq_true (by omega)])) ?_
         refine o_step rfl (s_move rfl) ?_
         refine o_yes rfl rfl ?_
         refine o_step rfl (s_move rfl) ?_
         refine o_yes rfl rfl ?_
         refine o_step rfl (s_move rfl) ?_
         refine o_yes rfl rfl ?_
         refine o_step rfl (s_idx rfl rfl hCs (by omega)) ?_
         refine o_yes rfl rfl ?_
         refine o_step rfl (s_field rfl rfl (by decide)) ?_
         refine o_yes rfl rfl ?_
         refine o_step rfl (s_ld rfl (((hO32.rdk hiA).ld 0 1 hc0 rfl (by decide) (by rfl) : Cel _ _ _ (.int .i64 (q : Int))))) ?_
         refine o_yes rfl rfl ?_
         refine o_step rfl (s_idx rfl rfl hls (by omega)) ?_
         refine o_yes rfl rfl ?_
         refine o_step rfl (step_cast (v' := .bool true) (s_ld rfl ((hO112.rdk hiA).ld q 0 hlq rfl (by decide) (by omega))) rfl) ?_
         refine o_yes rfl rfl ?_
         refine o_step rfl (s_not rfl) ?_
         refine o_step rfl (s_pick_t rfl rfl) ?_
         refine o_nil ?_
         refine x_then (hK27 _ _ ?_)
         refine c_false rfl ?_
         refine c_skip ?_
         refine x_block ?_
         refine x_then (hK19 _ _ ?_)
         refine c_region ?_
         refine o_step rfl (s_move rfl) ?_
         refine o_step rfl (s_add rfl rfl (by omega)) ?_
         refine o_step rfl (s_assign rfl) ?_
         refine o_nil ?_
         exact x_then (x_inv (i + 1) ⟨by omega, by omega⟩ (by first | omega | (dsimp only; omega)) sbA hzB)
        ·
         refine o_step rfl (step_cast (v' := .bool false) (s_eql rfl rfl) (by rw [decide_eq_false (by omega)])) ?_
         refine o_step rfl (s_move rfl) ?_
         refine o_no rfl rfl rfl rfl ?_
         refine o_no rfl rfl rfl rfl ?_
         refine o_no rfl rfl rfl rfl ?_
         refine o_no rfl rfl rfl rfl ?_
         refine o_no rfl rfl rfl rfl ?_
         refine o_no rfl rfl rfl rfl ?_
         refine o_no rfl rfl rfl rfl ?_
         refine o_no rfl rfl rfl rfl ?_
         refine o_step rfl (s_pick_f rfl rfl) ?_
         refine o_nil ?_
         refine x_then (hK27 _ _ ?_)
         refine c_false rfl ?_
         refine c_skip ?_
         refine x_block ?_
         refine x_then (hK19 _ _ ?_)
         refine c_region ?_
         refine o_step rfl (s_move rfl) ?_
         refine o_step rfl (s_add rfl rfl (by omega)) ?_
         refine o_step rfl (s_assign rfl) ?_
         refine o_nil ?_
         exact x_then (x_inv (i + 1) ⟨by omega, by omega⟩ (by first | omega | (dsimp only; omega)) sbA hzB)
      ·
       refine o_step rfl (step_cast (v' := .bool false) (s_leq rfl rfl) (by rw [decide_eq_false (by omega)])) ?_
       refine o_step rfl (s_pick_t rfl rfl) ?_
       refine o_nil ?_
       refine x_then (hK18 _ _ ?_)
       refine c_false rfl ?_
       refine c_exit ?_
       refine x_then_exit ?_
       refine x_then_exit ?_
       refine x_block_exit ?_
       refine x_then (hK15 _ _ ?_)
       refine c_seq fun _ hK28 => ?_
       refine c_seq fun _ hK29 => ?_
       refine c_region ?_
       refine o_step rfl (s_move rfl) ?_
       refine o_step rfl (s_not rfl) ?_
       refine o_nil ?_
       refine x_then (hK29 _ _ ?_)
       refine c_false rfl ?_
       refine c_skip ?_
       refine x_then (hK28 _ _ ?_)
       refine c_seq fun _ hK30 => ?_
       refine c_region ?_
       refine o_step rfl (s_move rfl) ?_
       refine o_step rfl (s_move rfl) ?_
       refine o_step rfl (s_move rfl) ?_
       refine o_step rfl (s_idx rfl rfl hCs (by omega)) ?_
       refine o_step rfl (s_ldB rfl ((hO32.rdk hiA).lds 0 hc0 (by first | rfl | omega)) (by rfl)) ?_
       refine o_call (best_fn ra rc re hre a27 c27 (w.take n) (by omega) p q) rfl rfl rfl (by exact .nil) (fun w2 st => ⟨(RdK.old0 hw.1).out w2 st, (hS27.rdk hiA).out w2 st⟩) (fun v163 S163 hv163 => ?_)
       obtain ⟨a163, cc163, rfl, hO163⟩ := bestL hm hl hv163 hL
       have hC2 := hO163.sl
       refine o_step rfl (s_move rfl) ?_
       refine o_step rfl (s_extract rfl rfl) ?_
       refine o_step rfl (s_extract rfl rfl) ?_
       refine o_step rfl (s_assign rfl) ?_
       refine o_step rfl (s_assign rfl) ?_
       refine o_nil ?_
       refine x_then (hK30 _ _ ?_)
       refine c_seq fun _ hK31 => ?_
       refine c_region ?_
       refine o_step rfl (s_move rfl) ?_
       refine o_step rfl (s_move rfl) ?_
       refine o_yes rfl rfl ?_
       refine o_step rfl (s_move rfl) ?_
       refine o_step rfl (s_pick_t rfl rfl) ?_
       refine o_step rfl (s_move rfl) ?_
       refine o_yes rfl rfl ?_
       refine o_step rfl (s_move rfl) ?_
       refine o_yes rfl rfl ?_
       refine o_step rfl (s_move rfl) ?_
       refine o_yes rfl rfl ?_
       refine o_callP (eqSpans_fn a32 a163 cc32 cc163 L L) rfl rfl rfl (fun w2 st => ⟨(hO32.rdk hiA).out w2 st, (hO163.rdk hiA).out w2 st⟩) (fun v173 hv173 => ?_)
       rw [decide_eq_true rfl] at hv173
       subst hv173
       refine o_step rfl (s_pick_t rfl rfl) ?_
       refine o_step rfl (s_assign rfl) ?_
       refine o_nil ?_
       refine x_then (hK31 _ _ ?_)
       refine c_ret ?_
       refine ?_
       exact x_ret rfl (.tmp rfl (.nil)) (rfl)
     ·
      refine o_step rfl (step_cast (v' := .bool false) (s_leq rfl rfl) (by rw [decide_eq_false (by omega)])) ?_
      refine o_step rfl (s_move rfl) ?_
      refine o_no rfl rfl rfl rfl ?_
      refine o_no rfl rfl rfl rfl ?_
      refine o_no rfl rfl rfl rfl ?_
      refine o_step rfl (s_pick_f rfl rfl) ?_
      refine o_nil ?_
      refine x_then (hK18 _ _ ?_)
      refine c_false rfl ?_
      refine c_exit ?_
      refine x_then_exit ?_
      refine x_then_exit ?_
      refine x_block_exit ?_
      refine x_then (hK15 _ _ ?_)
      refine c_seq fun _ hK32 => ?_
      refine c_seq fun _ hK33 => ?_
      refine c_region ?_
      refine o_step rfl (s_move rfl) ?_
      refine o_step rfl (s_not rfl) ?_
      refine o_nil ?_
      refine x_then (hK33 _ _ ?_)
      refine c_false rfl ?_
      refine c_skip ?_
      refine x_then (hK32 _ _ ?_)
      refine c_seq fun _ hK34 => ?_
      refine c_region ?_
      refine o_step rfl (s_move rfl) ?_
      refine o_step rfl (s_move rfl) ?_
      refine o_step rfl (s_move rfl) ?_
      refine o_step rfl (s_idx rfl rfl hCs (by omega)) ?_
      refine o_step rfl (s_ldB rfl ((hO32.rdk hiA).lds 0 hc0 (by first | rfl | omega)) (by rfl)) ?_
      refine o_call (best_fn ra rc re hre a27 c27 (w.take n) (by omega) p q) rfl rfl rfl (by exact .nil) (fun w2 st => ⟨(RdK.old0 hw.1).out w2 st, (hS27.rdk hiA).out w2 st⟩) (fun v163 S163 hv163 => ?_)
      obtain ⟨a163, cc163, rfl, hO163⟩ := bestL hm hl hv163 hL
      have hC2 := hO163.sl
      refine o_step rfl (s_move rfl) ?_
      refine o_step rfl (s_extract rfl rfl) ?_
      refine o_step rfl (s_extract rfl rfl) ?_
      refine o_step rfl (s_assign rfl) ?_
      refine o_step rfl (s_assign rfl) ?_
      refine o_nil ?_
      refine x_then (hK34 _ _ ?_)
      refine c_seq fun _ hK35 => ?_
      refine c_region ?_
      refine o_step rfl (s_move rfl) ?_
      refine o_step rfl (s_move rfl) ?_
      refine o_yes rfl rfl ?_
      refine o_step rfl (s_move rfl) ?_
      refine o_step rfl (s_pick_t rfl rfl) ?_
      refine o_step rfl (s_move rfl) ?_
      refine o_yes rfl rfl ?_
      refine o_step rfl (s_move rfl) ?_
      refine o_yes rfl rfl ?_
      refine o_step rfl (s_move rfl) ?_
      refine o_yes rfl rfl ?_
      refine o_callP (eqSpans_fn a32 a163 cc32 cc163 L L) rfl rfl rfl (fun w2 st => ⟨(hO32.rdk hiA).out w2 st, (hO163.rdk hiA).out w2 st⟩) (fun v173 hv173 => ?_)
      rw [decide_eq_true rfl] at hv173
      subst hv173
      refine o_step rfl (s_pick_t rfl rfl) ?_
      refine o_step rfl (s_assign rfl) ?_
      refine o_nil ?_
      refine x_then (hK35 _ _ ?_)
      refine c_ret ?_
      refine ?_
      exact x_ret rfl (.tmp rfl (.nil)) (rfl)
    ·
     refine o_step rfl (s_move rfl) ?_
     refine o_step rfl (s_extract rfl rfl) ?_
     refine o_step rfl (s_extract rfl rfl) ?_
     refine o_step rfl (s_assign rfl) ?_
     refine o_step rfl (s_assign rfl) ?_
     refine o_nil ?_
     refine x_then (hK7 _ _ ?_)
     refine c_seq fun _ hK36 => ?_
     refine c_seq fun _ hK37 => ?_
     refine c_region ?_
     refine o_step rfl (s_move rfl) ?_
     refine o_callP (may_fn ra rc re hre) rfl rfl rfl (fun w2 st => (RdK.old0 hw.1).out w2 st) (fun v36 hv36 => ?_)
     by_cases hmay : (shapedB re && !refsB re) = true
     ·
      rw [hmay] at hv36
      subst hv36
      rw [Bool.and_eq_true] at hmay
      have hsb := hmay.1
      have hrb : refsB re = false := by simpa using hmay.2
      obtain ⟨_, x, ks, hmx⟩ := shapedB_iff.1 hsb
      have hr8 := no_refs hsb hrb
      refine o_step rfl (s_not rfl) ?_
      refine o_step rfl (s_move rfl) ?_
      refine o_yes rfl rfl ?_
      refine o_step rfl (s_move rfl) ?_
      refine o_yes rfl rfl ?_
      by_cases hf0 : f < 0
      ·
       refine o_step rfl (step_cast (v' := .bool true) (s_lss rfl rfl) (by rw [decide_eq_true (by omega)])) ?_
       refine o_step rfl (s_pick_f rfl rfl) ?_
       refine o_step rfl (s_move rfl) ?_
       refine o_no rfl rfl rfl rfl ?_
       refine o_no rfl rfl rfl rfl ?_
       refine o_no rfl rfl rfl rfl ?_
       refine o_no rfl rfl rfl rfl ?_
       refine o_step rfl (s_pick_t rfl rfl) ?_
       refine o_nil ?_
       refine x_then (hK37 _ _ ?_)
       refine c_true rfl ?_
       refine c_seq fun _ hK38 => ?_
       refine c_region ?_
       refine o_step rfl (s_move rfl) ?_
       refine o_step rfl (s_move rfl) ?_
       refine o_yes rfl rfl ?_
       refine o_step rfl (s_move rfl) ?_
       refine o_yes rfl rfl ?_
       refine o_step rfl (s_not rfl) ?_
       refine o_step rfl (s_pick_t rfl rfl) ?_
       refine o_step rfl (s_move rfl) ?_
       refine o_yes rfl rfl ?_
       refine o_step rfl (s_move rfl) ?_
       refine o_yes rfl rfl ?_
       refine o_step rfl (s_len rfl) ?_
       refine o_yes rfl rfl ?_
       refine o_step rfl (s_eql_t rfl rfl (by rfl)) ?_
       refine o_step rfl (s_pick_t rfl rfl) ?_
       refine o_step rfl (s_assign rfl) ?_
       refine o_nil ?_
       refine x_then (hK38 _ _ ?_)
       refine c_ret ?_
       refine x_then_ret (?_)
       exact x_ret rfl (.tmp rfl (.nil)) (rfl)
      ·
       refine o_step rfl (step_cast (v' := .bool false) (s_lss rfl rfl) (by rw [decide_eq_false (by omega)])) ?_
       refine o_step rfl (s_pick_f rfl rfl) ?_
       refine o_step rfl (s_move rfl) ?_
       refine o_yes rfl rfl ?_
       refine o_step rfl (s_move rfl) ?_
       refine o_yes rfl rfl ?_
       refine o_step rfl (s_move rfl) ?_
       refine o_yes rfl rfl ?_
       refine o_step rfl (s_len rfl) ?_
       refine o_yes rfl rfl ?_
       by_cases hfl : f > (w.take n).length
       ·
        refine o_step rfl (step_cast (v' := .bool true) (s_gtr rfl rfl) (by rw [decide_eq_true (by omega)])) ?_
        refine o_step rfl (s_pick_f rfl rfl) ?_
        refine o_nil ?_
        refine x_then (hK37 _ _ ?_)
        refine c_true rfl ?_
        refine c_seq fun _ hK39 => ?_
        refine c_region ?_
        refine o_step rfl (s_move rfl) ?_
        refine o_step rfl (s_move rfl) ?_
        refine o_yes rfl rfl ?_
        refine o_step rfl (s_move rfl) ?_
        refine o_yes rfl rfl ?_
        refine o_step rfl (s_not rfl) ?_
        refine o_step rfl (s_pick_t rfl rfl) ?_
        refine o_step rfl (s_move rfl) ?_
        refine o_yes rfl rfl ?_
        refine o_step rfl (s_move rfl) ?_
        refine o_yes rfl rfl ?_
        refine o_step rfl (s_len rfl) ?_
        refine o_yes rfl rfl ?_
        refine o_step rfl (s_eql_t rfl rfl (by rfl)) ?_
        refine o_step rfl (s_pick_t rfl rfl) ?_
        refine o_step rfl (s_assign rfl) ?_
        refine o_nil ?_
        refine x_then (hK39 _ _ ?_)
        refine c_ret ?_
        refine x_then_ret (?_)
        exact x_ret rfl (.tmp rfl (.nil)) (rfl)
       ·
        refine o_step rfl (step_cast (v' := .bool false) (s_gtr rfl rfl) (by rw [decide_eq_false (by omega)])) ?_
        refine o_step rfl (s_pick_f rfl rfl) ?_
        refine o_nil ?_
        refine x_then (hK37 _ _ ?_)
        refine c_false rfl ?_
        refine c_skip ?_
        refine x_then (hK36 _ _ ?_)
        refine c_seq fun _ hK40 => ?_
        refine c_region ?_
        refine o_step rfl (s_move rfl) ?_
        refine o_step rfl (s_len rfl) ?_
        obtain ⟨g, rfl⟩ : ∃ g : Nat, f = g := ⟨f.toNat, by omega⟩
        refine o_step rfl (s_add rfl rfl (by omega)) ?_
        refine o_step rfl (s_assign rfl) ?_
        refine o_nil ?_
        refine x_then (hK40 _ _ ?_)
        refine c_seq fun _ hK41 => ?_
        refine c_seq fun _ hK42 => ?_
        refine c_region ?_
        refine o_step rfl (s_move rfl) ?_
        refine o_nil ?_
        refine x_then (hK42 _ _ ?_)
        refine c_false rfl ?_
        refine c_skip ?_
        refine x_then (hK41 _ _ ?_)
        refine c_seq fun _ hK43 => ?_
        refine c_seq fun _ hK44 => ?_
        refine c_region ?_
        refine o_step rfl (s_move rfl) ?_
        refine o_step rfl (s_assign rfl) ?_
        refine o_nil ?_
        refine x_then (hK44 _ _ ?_)
        refine c_block ?_
        -- not carried: 6
        refine c_loopB (fun (i : Nat) => g ≤ i ∧ i ≤ (w.take n).length + 1) (fun (i : Nat) => [(11, .int .i64 i)]) [(0, _), (1, _), (7, _), (8, _), (9, _), (10, _)] (fun (i : Nat) => S27) (fun (i : Nat) => (w.take n).length + 1 - i) g ⟨by omega, by omega⟩ sbA sbA hzB ?_
        rintro i ⟨hi1, hi2⟩
        refine c_seq fun _ hK45 => ?_
        refine c_seq fun _ hK46 => ?_
        refine c_region ?_
        refine o_step rfl (s_move rfl) ?_
        refine o_step rfl (s_move rfl) ?_
        refine o_step rfl (s_len rfl) ?_
        by_cases hil : (i : Int) ≤ (w.take n).length
        ·
         refine o_step rfl (step_cast (v' := .bool true) (s_leq rfl rfl) (by rw [decide_eq_true (by omega)])) ?_
         refine o_step rfl (s_move rfl) ?_
         refine o_yes rfl rfl ?_
         refine o_step rfl (s_move rfl) ?_
         refine o_yes rfl rfl ?_
         refine o_step rfl (s_move rfl) ?_
         refine o_yes rfl rfl ?_
         refine o_step rfl (s_leq_t rfl rfl (by omega)) ?_
         refine o_step rfl (s_pick_t rfl rfl) ?_
         refine o_nil ?_
         refine x_then (hK46 _ _ ?_)
         refine c_true rfl ?_
         refine c_skip ?_
         refine x_then (hK45 _ _ ?_)
         refine c_seq fun _ hK47 => ?_
         refine c_block ?_
         refine c_seq fun _ hK48 => ?_
         refine c_region ?_
         refine o_step rfl (s_move rfl) ?_
         refine o_step rfl (s_move rfl) ?_
         refine o_step rfl (s_move rfl) ?_
         refine o_call (takes_fn ra rc re x ks hmx hre hr8 a27 c27 (w.take n) (by omega) i (by omega)) rfl rfl rfl (by exact .nil) (fun w2 st => ⟨(RdK.old0 hw.1).out w2 st, (hS27.rdk hiA).out w2 st⟩) (fun v112 S112 ⟨a112, c112, l, hv112, hIs, hO112⟩ => ?_)
         subst hv112
         have hll := hIs.len
         refine o_step rfl (s_assign rfl) ?_
         refine o_nil ?_
         refine x_then (hK48 _ _ ?_)
         refine c_seq fun _ hK49 => ?_
         refine c_seq fun _ hK50 => ?_
         refine c_region ?_
         refine o_step rfl (s_assign rfl) ?_
         refine o_nil ?_
         refine x_then (hK50 _ _ ?_)
         refine c_block ?_
         refine c_knw (p := IsSl (.slice a112 l.length c112) l.length) (fun w2 st => ((hO112.rdk hiA).out w2 st).sl) fun hls => ?_
         refine c_loopB (fun (j : Nat) => j ≤ l.length) (fun (j : Nat) => [(13, .int .i64 j)]) [(0, _), (1, _), (7, _), (8, _), (9, _), (10, _), (11, _), (12, _), (98, _), (99, _), (100, _), (101, _), (102, _), (103, _), (104, _), (105, _), (106, _), (109, _), (110, _), (111, _), (112, _)] (fun (j : Nat) => S112 ++ (S27)) (fun (j : Nat) => l.length - j) 0 (Nat.zero_le _) sbA sbA hzB ?_
         rintro j hj
         refine c_seq fun _ hK51 => ?_
         refine c_seq fun _ hK52 => ?_
         refine c_region ?_
         refine o_step rfl (s_move rfl) ?_
         refine o_step rfl (s_move rfl) ?_
         refine o_step rfl (s_len rfl) ?_
         by_cases hjl : j < l.length
         ·
          have hjl2 : j ≤ (w.take n).length := by omega
          have hjg := bo0_get hjl
          have hbf : l[j]? = some false := by
            cases hb : bo0 l j with
            | false => rw [hjg, hb]
            | true => exact absurd ⟨x, ks, g, i, j, ⟨hsb, hrb, hmx⟩, rfl, hi1, hjl2, (hIs.get j hjl2).1 (bo0_true.1 hb)⟩ hn32
          refine o_step rfl (step_cast (v' := .bool true) (s_lss rfl rfl) (by rw [decide_eq_true (by omega)])) ?_
          refine o_nil ?_
          refine x_then (hK52 _ _ ?_)
          refine c_true rfl ?_
          refine c_skip ?_
          refine x_then (hK51 _ _ ?_)
          refine c_seq fun _ hK53 => ?_
          refine c_block ?_
          refine c_seq fun _ hK54 => ?_
          refine c_region ?_
          refine o_step rfl (s_move rfl) ?_
          refine o_step rfl (s_move rfl) ?_
          refine o_step rfl (s_idx rfl rfl hls (by omega)) ?_
          refine o_step rfl (step_cast (v' := .bool false) (s_ld rfl ((hO112.rdk hiA).ld j 0 hbf rfl (by decide) (by omega))) rfl) ?_
          refine o_step rfl (s_move rfl) ?_
          refine o_no rfl rfl rfl rfl ?_
          refine o_no rfl rfl rfl rfl ?_
          refine o_no rfl rfl rfl rfl ?_
          refine o_no rfl rfl rfl rfl ?_
          refine o_noU rfl rfl rfl ?_
          refine o_noU rfl rfl rfl ?_
          refine o_noU rfl rfl rfl ?_
          refine o_noU rfl rfl rfl ?_
          refine o_noU rfl rfl rfl ?_
          refine o_noU rfl rfl rfl ?_
          refine o_no rfl rfl rfl rfl ?_
          refine o_step rfl (s_pick_f rfl rfl) ?_
          refine o_nil ?_
          refine x_then (hK54 _ _ ?_)
          refine c_false rfl ?_
          refine c_skip ?_
          refine x_block ?_
          refine x_then (hK53 _ _ ?_)
          refine c_region ?_
          refine o_step rfl (s_move rfl) ?_
          refine o_step rfl (s_add rfl rfl (by omega)) ?_
          refine o_step rfl (s_assign rfl) ?_
          refine o_nil ?_
          exact x_then (x_inv (j + 1) (by omega) (by first | omega | (dsimp only; omega)) sbA hzB)
         ·
          refine o_step rfl (step_cast (v' := .bool false) (s_lss rfl rfl) (by rw [decide_eq_false (by omega)])) ?_
          refine o_nil ?_
          refine x_then (hK52 _ _ ?_)
          refine c_false rfl ?_
          refine c_exit ?_
          refine x_then_exit ?_
          refine x_then_exit ?_
          refine x_block_exit ?_
          refine x_then (hK49 _ _ ?_)
          refine c_seq fun _ hK55 => ?_
          refine c_region ?_
          refine o_step rfl (s_move rfl) ?_
          refine o_step rfl (s_move rfl) ?_
          refine o_step rfl (s_eql_f rfl rfl (by omega)) ?_
          refine o_step rfl (s_move rfl) ?_
          refine o_no rfl rfl rfl rfl ?_
          refine o_no rfl rfl rfl rfl ?_
          refine o_no rfl rfl rfl rfl ?_
          refine o_no rfl rfl rfl rfl ?_
          refine o_no rfl rfl rfl rfl ?_
          refine o_no rfl rfl rfl rfl ?_
          refine o_no rfl rfl rfl rfl ?_
          refine o_no rfl rfl rfl rfl ?_
          refine o_step rfl (s_pick_f rfl rfl) ?_
          refine o_nil ?_
          refine x_then (hK55 _ _ ?_)
          refine c_false rfl ?_
          refine c_skip ?_
          refine x_block ?_
          refine x_then (hK47 _ _ ?_)
          refine c_region ?_
          refine o_step rfl (s_move rfl) ?_
          refine o_step rfl (s_add rfl rfl (by omega)) ?_
          refine o_step rfl (s_assign rfl) ?_
          refine o_nil ?_
          exact x_then (x_inv (i + 1) ⟨by omega, by omega⟩ (by first | omega | (dsimp only; omega)) sbA hzB)
        ·
         refine o_step rfl (step_cast (v' := .bool false) (s_leq rfl rfl) (by rw [decide_eq_false (by omega)])) ?_
         refine o_step rfl (s_move rfl) ?_
         refine o_no rfl rfl rfl rfl ?_
         refine o_no rfl rfl rfl rfl ?_
         refine o_no rfl rfl rfl rfl ?_
         refine o_step rfl (s_pick_f rfl rfl) ?_
         refine o_nil ?_
         refine x_then (hK46 _ _ ?_)
         refine c_false rfl ?_
         refine c_exit ?_
         refine x_then_exit ?_
         refine x_then_exit ?_
         refine x_block_exit ?_
         refine x_then (hK43 _ _ ?_)
         refine c_seq fun _ hK56 => ?_
         refine c_seq fun _ hK57 => ?_
         refine c_region ?_
         refine o_step rfl (s_move rfl) ?_
         refine o_step rfl (s_not rfl) ?_
         refine o_nil ?_
         refine x_then (hK57 _ _ ?_)
         refine c_true rfl ?_
         refine c_seq fun _ hK58 => ?_
         refine c_region ?_
         refine o_step rfl (s_move rfl) ?_
         refine o_step rfl (s_move rfl) ?_
         refine o_yes rfl rfl ?_
         refine o_step rfl (s_move rfl) ?_
         refine o_yes rfl rfl ?_
         refine o_step rfl (s_len rfl) ?_
         refine o_yes rfl rfl ?_
         refine o_step rfl (s_eql_t rfl rfl (by rfl)) ?_
         refine o_step rfl (s_pick_t rfl rfl) ?_
         refine o_step rfl (s_assign rfl) ?_
         refine o_nil ?_
         refine x_then (hK58 _ _ ?_)
         refine c_ret ?_
         refine x_then_ret (?_)
         exact x_ret rfl (.tmp rfl (.nil)) (rfl)
     ·
      have hmf : (shapedB re && !refsB re) = false := by simpa using hmay
      rw [hmf] at hv36
      subst hv36
      refine o_step rfl (s_not rfl) ?_
      refine o_step rfl (s_move rfl) ?_
      refine o_no rfl rfl rfl rfl ?_
      refine o_no rfl rfl rfl rfl ?_
      refine o_step rfl (s_pick_t rfl rfl) ?_
      refine o_step rfl (s_move rfl) ?_
      refine o_no rfl rfl rfl rfl ?_
      refine o_no rfl rfl rfl rfl ?_
      refine o_no rfl rfl rfl rfl ?_
      refine o_no rfl rfl rfl rfl ?_
      refine o_step rfl (s_pick_t rfl rfl) ?_
      refine o_nil ?_
      refine x_then (hK37 _ _ ?_)
      refine c_true rfl ?_
      refine c_seq fun _ hK59 => ?_
      refine c_region ?_
      refine o_step rfl (s_move rfl) ?_
      refine o_step rfl (s_move rfl) ?_
      refine o_yes rfl rfl ?_
      refine o_step rfl (s_move rfl) ?_
      refine o_yes rfl rfl ?_
      refine o_step rfl (s_not rfl) ?_
      refine o_step rfl (s_pick_t rfl rfl) ?_
      refine o_step rfl (s_move rfl) ?_
      refine o_yes rfl rfl ?_
      refine o_step rfl (s_move rfl) ?_
      refine o_yes rfl rfl ?_
      refine o_step rfl (s_len rfl) ?_
      refine o_yes rfl rfl ?_
      refine o_step rfl (s_eql_t rfl rfl (by rfl)) ?_
      refine o_step rfl (s_pick_t rfl rfl) ?_
      refine o_step rfl (s_assign rfl) ?_
      refine o_nil ?_
      refine x_then (hK59 _ _ ?_)
      refine c_ret ?_
      refine x_then_ret (?_)
      exact x_ret rfl (.tmp rfl (.nil)) (rfl)
  ·
   refine o_step rfl (s_move rfl) ?_
   refine o_no rfl rfl rfl rfl ?_
   refine o_no rfl rfl rfl rfl ?_
   refine o_no rfl rfl rfl rfl ?_
   refine o_step rfl (s_pick_t rfl rfl) ?_
   refine o_nil ?_
   refine x_then (hK4 _ _ ?_)
   refine c_true rfl ?_
   refine c_seq fun _ hK60 => ?_
   refine c_region ?_
   refine o_step rfl (s_move rfl) ?_
   refine o_step rfl (s_assign rfl) ?_
   refine o_nil ?_
   refine x_then (hK60 _ _ ?_)
   refine c_ret ?_
   refine x_then_ret (?_)
   exact x_ret rfl (.tmp rfl (.nil)) (rfl)
end Go.Proofs.Ytiggliigookieaa
