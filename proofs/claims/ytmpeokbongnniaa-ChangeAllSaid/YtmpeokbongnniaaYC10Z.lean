/- Part of the proofs over this seat: see the text that holds the theorem. Conditions: each theorem bears its own. -/
import Derived.Test.YtmpeokbongnniaaHTZ
import Derived.Test.YtmpeokbongnniaaYC7Z
namespace Go.Proofs.Ytmpeokbongnniaa
open Go Go.HL Go.Proofs Go.HL.Kl Go.HL.Kl.Mc Go.HL.Kl.Mc.AskE
def SzI (n : Nat) (P : List (Int × List UInt8)) (ds : List (List Sp)) (Z : Int) : Prop := (Z = (n : Int) + sumC P ds - sumD ds ∨ 2199023255552 - (sumD ds : Int) ≤ Z) ∧ Z ≤ 2199024255552
theorem SzI.step {n : Nat} {P : List (Int × List UInt8)} {ds : List (List Sp)} {Z : Int} {L : List Sp} {a p q : Nat} (h : SzI n P ds Z) (hg : GoodL n a L p q) (hn : n ≤ 1000000) : SzI n P (ds ++ [L]) (min (Z - ((q : Int) - p) + ((min (longS L P) 1099511627776 : Nat) : Int)) 2199023255552) := by
  have e1 : sumD [L] = q - p := by simp [sumD, hg.hds]
  have e2 : sumC P [L] = min (longS L P) 1099511627776 := by simp [sumC]
  have h1 := hg.le
  unfold SzI at h ⊢
  rw [sumD_app, sumC_app, e1, e2]
  generalize min (longS L P) 1099511627776 = m at *
  have h2 : ((q - p : Nat) : Int) = q - p := by omega
  push_cast
  rw [h2]
  omega
theorem SzI.fin {w : List UInt8} {P : List (Int × List UInt8)} {ds : List (List Sp)} {Z : Int} (h : SzI w.length P ds Z) (hc : ChG w.length 0 ds) (hn : w.length ≤ 1000000) (hz : Z ≤ 2147483647) : ((doF w P 0 ds).length : Int) = Z := by
  have h1 := hc.sumD_le (Nat.zero_le _)
  have h2 := doF_len (P := P) hc (Nat.zero_le _)
  obtain ⟨h3 | h3, _⟩ := h
  · rw [sumC_eq (by omega)] at h3
    omega
  · omega
theorem chs_nil {first : Int} {all : Bool} : chs first all [] = [] := by unfold chs; split <;> simp
theorem chs_no {first : Int} {all : Bool} {xs ds : List (List Sp)} {i : Nat} {L : List Sp} (h : xs[i]? = some L) (hd : ds = chs first all (xs.take i)) (hc : i < (first - 1).toNat ∨ (all = false ∧ ds ≠ [])) : ds = chs first all (xs.take (i + 1)) := by
  rw [chs_step h, ← hd, if_pos hc]
theorem chs_yes {first : Int} {all : Bool} {xs ds : List (List Sp)} {i : Nat} {L : List Sp} (h : xs[i]? = some L) (hd : ds = chs first all (xs.take i)) (hc : ¬ (i < (first - 1).toNat ∨ (all = false ∧ ds ≠ []))) : ds ++ [L] = chs first all (xs.take (i + 1)) := by
  rw [chs_step h, ← hd, if_neg hc]
theorem ChG.nth {n : Nat} : ∀ {a : Nat} {xs : List (List Sp)} {i : Nat} {L : List Sp}, ChG n a xs → xs[i]? = some L → ∃ p q, GoodL n a L p q
  | a, [], i, L, _, h => by simp at h
  | a, x :: xs, 0, L, hc, h => by
    obtain ⟨p, q, hg, _⟩ := ChG.inv hc
    simp at h; subst h; exact ⟨p, q, hg⟩
  | a, x :: xs, i + 1, L, hc, h => by
    obtain ⟨p, q, hg, hr⟩ := ChG.inv hc
    obtain ⟨p', q', hg'⟩ := ChG.nth hr (by simpa using h)
    exact ⟨p', q', hg'.mono (Nat.le_trans hg.ge hg.le)⟩
theorem ab_le {qs ps : List Pc} (h : qs.map Pc.abs = ps.map Pc.abs) (hp : ∀ p ∈ ps, p.t.xs.length ≤ 140737488355328) : ∀ q ∈ qs, q.t.xs.length ≤ 140737488355328 := fun q hq => by
  have h1 := List.mem_map_of_mem (f := Pc.abs) hq
  rw [h] at h1
  obtain ⟨p, hpm, he⟩ := List.mem_map.1 h1
  have e : q.t.xs = p.t.xs := (congrArg Prod.snd he).symm
  rw [e]; exact hp p hpm
set_option maxHeartbeats 1000000 in
theorem sized_fn (sa : Option Addr) (sc : Nat) (sls : List (Sl Sp)) (xs : List (List Sp)) (hxs : sls.map Sl.xs = xs) (fa : Option Addr) (fc : Nat) (ps : List Pc) (xa : Option Addr) (xc : Nat) (w : List UInt8) (first : Int) (all : Bool) (most : Int) (hwl : w.length ≤ 1000000) (hpl : ps.length ≤ 2147483648) (hcg : ChG w.length 0 xs) (hf1 : -9223372036854775808 ≤ first ∧ first ≤ 9223372036854775807) : HL.Fn Try.prog 14 [.slice sa sls.length sc, .agg #[.slice fa ps.length fc, .slice xa w.length xc, .int .i64 first, .bool all, .int .i64 most]] (fun W => (Rd Esl W (.slice sa sls.length sc) sls ∧ ∀ s ∈ sls, Rd Esp W s.v s.xs) ∧ ((Rd Epc W (.slice fa ps.length fc) ps ∧ ∀ p ∈ ps, Rd Eb W p.t.v p.t.xs) ∧ Rd Eb W (.slice xa w.length xc) w)) [] (fun v _ => ∃ Z : Int, v = .int .i64 Z ∧ (Z ≤ 2147483647 → ((doF w (ps.map Pc.abs) 0 (chs first all xs)).length : Int) = Z)) := by
  refine fn_of Try.func14 rfl rfl rfl fun w0 hw => ?_
  obtain ⟨⟨h1, h1s⟩, ⟨h2, h2t⟩, h3⟩ := hw
  have hs1 := h1.sl
  have hbl := hs1.le
  have hpb : ∀ p ∈ ps, p.t.xs.length ≤ 140737488355328 := fun p hp => (h2t p hp).sl.le
  refine c_seq fun _ hK1 => ?_; refine c_region ?_; refine o_box rfl rfl rfl fun b3 => ?_; refine o_step rfl (s_assign rfl) ?_; refine o_nil ?_; refine x_then (hK1 _ _ ?_); refine c_seq fun _ hK2 => ?_; refine c_region ?_; refine o_step rfl (s_field rfl rfl (by decide)) ?_; refine o_step rfl (s_ld rfl (.own meA rfl)) ?_; refine o_step rfl (s_len rfl) ?_; refine o_step rfl (s_assign rfl) ?_; refine o_nil ?_; refine x_then (hK2 _ _ ?_); refine c_seq fun _ hK3 => ?_; refine c_region ?_; refine o_step rfl (s_assign rfl) ?_; refine o_nil ?_; refine x_then (hK3 _ _ ?_); refine c_seq fun _ hK4 => ?_; refine c_seq fun _ hK5 => ?_; refine c_region ?_; refine o_step rfl (s_assign rfl) ?_; refine o_nil ?_; refine x_then (hK5 _ _ ?_); refine c_block ?_; refine c_loop3 (fun (i : Nat) (ds : List (List Sp)) (Z : Int) => i ≤ sls.length ∧ ds = chs first all (xs.take i) ∧ ds.length ≤ i ∧ SzI w.length (ps.map Pc.abs) ds Z) (fun (i : Nat) (ds : List (List Sp)) (Z : Int) => [(7, .int .i64 i), (6, .int .i64 (ds.length : Nat)), (5, .int .i64 Z)]) [(0, _), (3, _), (4, _)] (fun (i : Nat) (ds : List (List Sp)) (Z : Int) => [(b3, .cells [.slice fa ps.length fc, .slice xa w.length xc, .int .i64 first, .bool all, .int .i64 most].toArray 41 (0, 0))]) (fun (i : Nat) (ds : List (List Sp)) (Z : Int) => sls.length - i) 0 [] (w.length : Int) ⟨Nat.zero_le _, by rw [List.take_zero, chs_nil], Nat.le_refl _, .inl (by simp [sumC, sumD]), by omega⟩ sbA sbA hzB ?_
  rintro i ds Z ⟨hi, hds, hdl, hZ⟩
  refine c_seq fun _ hK6 => ?_; refine c_seq fun _ hK7 => ?_; refine c_region ?_; refine o_step rfl (s_move rfl) ?_; refine o_step rfl (s_move rfl) ?_; refine o_step rfl (s_len rfl) ?_; refine o_step rfl (s_lss rfl rfl) ?_; refine o_nil ?_; refine x_then (hK7 _ _ ?_); refine c_if rfl (fun hlt => ?_) (fun hlt => ?_)
  ·
   obtain ⟨s, hs⟩ : ∃ s, sls[i]? = some s := ⟨_, List.getElem?_eq_getElem (by omega)⟩
   have hsm := List.mem_of_getElem? hs
   have hxi : xs[i]? = some s.xs := by rw [← hxs, List.getElem?_map, hs]; rfl
   obtain ⟨p2, q2, hg⟩ := ChG.nth hcg hxi
   have hg1 := hg.le
   have hg2 := hg.ln
   have hsr := h1s s hsm
   have hss := hsr.sl
   have hLp : 0 < s.xs.length := (List.getElem?_eq_some_iff.1 hg.hd).1
   have hll := hg.len
   have hZ1 := hZ.2
   have hcd := ((hcg.take i).chs first all).sumD_le (Nat.zero_le _)
   rw [← hds] at hcd
   have hZ0 : 0 ≤ Z := by rcases hZ.1 with h | h <;> omega
   refine c_skip ?_; refine x_then (hK6 _ _ ?_); refine c_seq fun _ hK8 => ?_; refine c_block ?_; refine c_seq fun _ hK9 => ?_; refine c_seq fun _ hK10 => ?_; refine c_region ?_; refine o_step rfl (s_move rfl) ?_; refine o_step rfl (s_move rfl) ?_; refine o_step rfl (s_idx rfl rfl hs1 (by omega)) ?_; refine o_step rfl (s_ld rfl ((RdK.old0 h1).ld i 0 hs rfl (by decide) (by omega))) ?_; refine o_step rfl (s_len rfl) ?_; refine o_step rfl (s_eql_f rfl rfl (by omega)) ?_; refine o_step rfl (s_move rfl) ?_; refine o_yes rfl rfl ?_; refine o_step rfl (s_move rfl) ?_; refine o_yes rfl rfl ?_; refine o_step rfl (s_field rfl rfl (by decide)) ?_; refine o_yes rfl rfl ?_; refine o_step rfl (s_ld rfl (.own meA rfl)) ?_; refine o_yes rfl rfl ?_; refine o_step rfl (s_max rfl rfl) ?_; refine o_yes rfl rfl ?_; refine o_step rfl (s_sub rfl rfl (by omega)) ?_; refine o_yes rfl rfl ?_
   by_cases hik : (i : Int) < max first 1 - 1
   ·
    refine o_step rfl (step_cast (v' := .bool true) (s_lss rfl rfl) (by rw [decide_eq_true (by omega)])) ?_; refine o_step rfl (s_pick_f rfl rfl) ?_; refine o_step rfl (s_move rfl) ?_; refine o_no rfl rfl rfl rfl ?_; refine o_no rfl rfl rfl rfl ?_; refine o_no rfl rfl rfl rfl ?_; refine o_noU rfl rfl rfl ?_; refine o_noU rfl rfl rfl ?_; refine o_noU rfl rfl rfl ?_; refine o_no rfl rfl rfl rfl ?_; refine o_step rfl (s_pick_t rfl rfl) ?_; refine o_nil ?_; refine x_then (hK10 _ _ ?_); refine c_true rfl ?_; refine c_exit ?_; refine x_then_exit ?_; refine x_block_exit ?_; refine x_then (hK8 _ _ ?_); refine c_region ?_; refine o_step rfl (s_move rfl) ?_; refine o_step rfl (s_add rfl rfl (by omega)) ?_; refine o_step rfl (s_assign rfl) ?_; refine o_nil ?_; exact x_then (x_inv (i + 1, ds, Z) ⟨by dsimp only; omega, chs_no hxi hds (.inl (by omega)), by dsimp only; omega, hZ⟩ (by first | omega | (dsimp only; omega)) sbA hzB)
   ·
    refine o_step rfl (step_cast (v' := .bool false) (s_lss rfl rfl) (by rw [decide_eq_false (by omega)])) ?_; refine o_step rfl (s_pick_f rfl rfl) ?_; refine o_step rfl (s_move rfl) ?_; refine o_yes rfl rfl ?_; refine o_step rfl (s_move rfl) ?_; refine o_yes rfl rfl ?_
    by_cases hn0 : (ds.length : Int) > 0
    ·
     refine o_step rfl (step_cast (v' := .bool true) (s_gtr rfl rfl) (by rw [decide_eq_true (by omega)])) ?_; refine o_yes rfl rfl ?_; refine o_step rfl (s_move rfl) ?_; refine o_yes rfl rfl ?_; refine o_step rfl (s_field rfl rfl (by decide)) ?_; refine o_yes rfl rfl ?_
     by_cases hall : all = true
     ·
      refine o_step rfl (step_cast (v' := .bool true) (s_ld rfl (.own meA rfl)) (by rw [hall])) ?_; refine o_yes rfl rfl ?_; refine o_step rfl (s_not rfl) ?_; refine o_yes rfl rfl ?_; refine o_step rfl (s_pick_t rfl rfl) ?_; refine o_step rfl (s_pick_f rfl rfl) ?_; refine o_nil ?_; refine x_then (hK10 _ _ ?_); refine c_false rfl ?_; refine c_skip ?_; refine x_then (hK9 _ _ ?_); refine c_seq fun _ hK11 => ?_; refine c_region ?_; refine o_step rfl (s_move rfl) ?_; refine o_step rfl (step_cast (v' := .int .i64 ((ds ++ [s.xs]).length : Nat)) (s_add rfl rfl (by omega)) (by simp)) ?_; refine o_step rfl (s_assign rfl) ?_; refine o_nil ?_; refine x_then (hK11 _ _ ?_); refine c_drawE ([(b3, .cells [.slice fa ps.length fc, .slice xa w.length xc, .int .i64 first, .bool all, .int .i64 most].toArray 41 (0, 0))]) (fun i => false) ?_; refine e_tk 0 rfl hzB (s_move rfl) ?_; refine e_tk 1 rfl hzB (s_move rfl) ?_
      refine e_tk 2 rfl hzB (s_move rfl) ?_; refine e_tk 3 rfl hzB (s_idx rfl rfl hs1 (by omega)) ?_; refine e_tk 4 rfl hzB (s_ld rfl ((RdK.old0 h1).ld i 0 hs rfl (by decide) (by omega))) ?_; refine e_tk 5 rfl hzB (s_idx rfl rfl hss (by omega)) ?_; refine e_tk 6 rfl hzB (s_field rfl rfl (by decide)) ?_; refine e_tk 7 rfl hzB (s_ld rfl ((RdK.old0 hsr).ld 0 1 hg.hd rfl (by decide) (by simp only [soff, Sl.v]; rfl))) ?_; refine e_tk 8 rfl hzB (s_move rfl) ?_; refine e_tk 9 rfl hzB (s_move rfl) ?_; refine e_tk 10 rfl hzB (s_idx rfl rfl hs1 (by omega)) ?_; refine e_tk 11 rfl hzB (s_ld rfl ((RdK.old0 h1).ld i 0 hs rfl (by decide) (by omega))) ?_; refine e_tk 12 rfl hzB (s_idx rfl rfl hss (by omega)) ?_; refine e_tk 13 rfl hzB (s_field rfl rfl (by decide)) ?_; refine e_tk 14 rfl hzB (s_ld rfl ((RdK.old0 hsr).ld 0 0 hg.hd rfl (by decide) (by simp only [soff, Sl.v]; rfl))) ?_; refine e_tk 15 rfl hzB (step_cast (v' := .int .i64 ((q2 : Int) - p2)) (s_sub rfl rfl (by show -9223372036854775808 ≤ (q2 : Int) - p2 ∧ (q2 : Int) - p2 ≤ 9223372036854775807; omega)) rfl) ?_
      refine e_tk 16 rfl hzB (s_sub rfl rfl (by omega)) ?_; refine e_tk 17 rfl hzB (s_field rfl rfl (by decide)) ?_; refine e_tk 18 rfl hzB (s_ld rfl (.own meA rfl)) ?_; refine e_tk 20 rfl hzB (s_move rfl) ?_; refine e_tk 21 rfl hzB (s_move rfl) ?_; refine e_tk 22 rfl hzB (s_idx rfl rfl hs1 (by omega)) ?_; refine e_tk 23 rfl hzB (s_ld rfl ((RdK.old0 h1).ld i 0 hs rfl (by decide) (by omega))) ?_; refine e_one 19 rfl (by kernel_rfl) ?_; refine o_call (copyPieces_fn fa fc ps hpl) rfl rfl rfl (by exact .nil) (fun _ st => ⟨(RdK.old0 h2).out _ st, fun p hp => (RdK.old0 (h2t p hp)).out _ st⟩) (fun v61 S61 ⟨a61, c61, qs, Sh61, Sc61, hv61, hS61, hO61, hqa, hqr⟩ => ?_); subst hv61
      subst hS61; refine o_nil ?_; refine x_oneS hzB ?_; refine e_one 24 rfl (by kernel_rfl) ?_; refine o_call (copySpans_fn s.a s.c s.xs hll) rfl rfl rfl (by exact .nil) (fun _ st => (RdK.old0 hsr).out _ st) (fun v66 S66 ⟨a66, c66, hv66, hO66⟩ => ?_); subst hv66
      refine o_nil ?_; refine x_oneS hzB ?_; refine e_one 25 rfl (by kernel_rfl) ?_; refine o_callP (fLong_fn a61 c61 qs a66 c66 s.xs w.length hwl hg.all (fun q hq => by have := (hqr q hq); exact ab_le hqa hpb q hq)) rfl rfl rfl (fun _ st => ⟨(hO61.rdk hiA).out _ st, (hO66.rdk hiA).out _ st⟩) (fun v67 hv67 => ?_)
      rw [hqa] at hv67
      subst hv67; refine o_nil ?_; refine x_oneS hzB ?_; refine e_one 26 rfl (by kernel_rfl) ?_; refine o_step rfl (s_add rfl rfl (by omega)) ?_; refine o_nil ?_; refine x_oneS hzB ?_; refine e_one 27 rfl (by kernel_rfl) ?_; refine o_step rfl (s_min rfl rfl) ?_; refine o_nil ?_; refine x_oneS hzB ?_; refine e_one 28 rfl (by kernel_rfl) ?_; refine o_step rfl (s_assign rfl) ?_; refine o_nil ?_; refine x_oneS hzB ?_; refine e_done (by kernel_rfl) ?_; refine x_block ?_; refine x_then (hK8 _ _ ?_); refine c_region ?_; refine o_step rfl (s_move rfl) ?_; refine o_step rfl (s_add rfl rfl (by omega)) ?_; refine o_step rfl (s_assign rfl) ?_; refine o_nil ?_; exact x_then (x_inv (i + 1, ds ++ [s.xs], _) ⟨by dsimp only; omega, chs_yes hxi hds (by rintro (h | ⟨h, _⟩); omega; rw [hall] at h; cases h), by simp; omega, hZ.step hg hwl⟩ (by first | omega | (dsimp only; omega)) sbA hzB)
     ·
      replace hall : all = false := by simpa using hall
      refine o_step rfl (step_cast (v' := .bool false) (s_ld rfl (.own meA rfl)) (by rw [hall])) ?_; refine o_yes rfl rfl ?_; refine o_step rfl (s_not rfl) ?_; refine o_yes rfl rfl ?_; refine o_step rfl (s_pick_t rfl rfl) ?_; refine o_step rfl (s_pick_f rfl rfl) ?_; refine o_nil ?_; refine x_then (hK10 _ _ ?_); refine c_true rfl ?_; refine c_exit ?_; refine x_then_exit ?_; refine x_block_exit ?_; refine x_then (hK8 _ _ ?_); refine c_region ?_; refine o_step rfl (s_move rfl) ?_; refine o_step rfl (s_add rfl rfl (by omega)) ?_; refine o_step rfl (s_assign rfl) ?_; refine o_nil ?_; exact x_then (x_inv (i + 1, ds, Z) ⟨by dsimp only; omega, chs_no hxi hds (.inr ⟨hall, List.ne_nil_of_length_pos (by dsimp only; omega)⟩), by dsimp only; omega, hZ⟩ (by first | omega | (dsimp only; omega)) sbA hzB)
    ·
     refine o_step rfl (step_cast (v' := .bool false) (s_gtr rfl rfl) (by rw [decide_eq_false (by omega)])) ?_; refine o_yes rfl rfl ?_; refine o_step rfl (s_move rfl) ?_; refine o_no rfl rfl rfl rfl ?_; refine o_no rfl rfl rfl rfl ?_; refine o_no rfl rfl rfl rfl ?_; refine o_yes rfl rfl ?_; refine o_step rfl (s_pick_f rfl rfl) ?_; refine o_step rfl (s_pick_f rfl rfl) ?_; refine o_nil ?_; refine x_then (hK10 _ _ ?_); refine c_false rfl ?_; refine c_skip ?_; refine x_then (hK9 _ _ ?_); refine c_seq fun _ hK12 => ?_; refine c_region ?_; refine o_step rfl (s_move rfl) ?_; refine o_step rfl (step_cast (v' := .int .i64 ((ds ++ [s.xs]).length : Nat)) (s_add rfl rfl (by omega)) (by simp)) ?_; refine o_step rfl (s_assign rfl) ?_; refine o_nil ?_; refine x_then (hK12 _ _ ?_); refine c_drawE ([(b3, .cells [.slice fa ps.length fc, .slice xa w.length xc, .int .i64 first, .bool all, .int .i64 most].toArray 41 (0, 0))]) (fun i => false) ?_
     refine e_tk 0 rfl hzB (s_move rfl) ?_; refine e_tk 1 rfl hzB (s_move rfl) ?_; refine e_tk 2 rfl hzB (s_move rfl) ?_; refine e_tk 3 rfl hzB (s_idx rfl rfl hs1 (by omega)) ?_; refine e_tk 4 rfl hzB (s_ld rfl ((RdK.old0 h1).ld i 0 hs rfl (by decide) (by omega))) ?_; refine e_tk 5 rfl hzB (s_idx rfl rfl hss (by omega)) ?_; refine e_tk 6 rfl hzB (s_field rfl rfl (by decide)) ?_; refine e_tk 7 rfl hzB (s_ld rfl ((RdK.old0 hsr).ld 0 1 hg.hd rfl (by decide) (by simp only [soff, Sl.v]; rfl))) ?_; refine e_tk 8 rfl hzB (s_move rfl) ?_; refine e_tk 9 rfl hzB (s_move rfl) ?_; refine e_tk 10 rfl hzB (s_idx rfl rfl hs1 (by omega)) ?_; refine e_tk 11 rfl hzB (s_ld rfl ((RdK.old0 h1).ld i 0 hs rfl (by decide) (by omega))) ?_; refine e_tk 12 rfl hzB (s_idx rfl rfl hss (by omega)) ?_; refine e_tk 13 rfl hzB (s_field rfl rfl (by decide)) ?_; refine e_tk 14 rfl hzB (s_ld rfl ((RdK.old0 hsr).ld 0 0 hg.hd rfl (by decide) (by simp only [soff, Sl.v]; rfl))) ?_
     refine e_tk 15 rfl hzB (step_cast (v' := .int .i64 ((q2 : Int) - p2)) (s_sub rfl rfl (by show -9223372036854775808 ≤ (q2 : Int) - p2 ∧ (q2 : Int) - p2 ≤ 9223372036854775807; omega)) rfl) ?_; refine e_tk 16 rfl hzB (s_sub rfl rfl (by omega)) ?_; refine e_tk 17 rfl hzB (s_field rfl rfl (by decide)) ?_; refine e_tk 18 rfl hzB (s_ld rfl (.own meA rfl)) ?_; refine e_tk 20 rfl hzB (s_move rfl) ?_; refine e_tk 21 rfl hzB (s_move rfl) ?_; refine e_tk 22 rfl hzB (s_idx rfl rfl hs1 (by omega)) ?_; refine e_tk 23 rfl hzB (s_ld rfl ((RdK.old0 h1).ld i 0 hs rfl (by decide) (by omega))) ?_; refine e_one 19 rfl (by kernel_rfl) ?_; refine o_call (copyPieces_fn fa fc ps hpl) rfl rfl rfl (by exact .nil) (fun _ st => ⟨(RdK.old0 h2).out _ st, fun p hp => (RdK.old0 (h2t p hp)).out _ st⟩) (fun v61 S61 ⟨a61, c61, qs, Sh61, Sc61, hv61, hS61, hO61, hqa, hqr⟩ => ?_); subst hv61
     subst hS61; refine o_nil ?_; refine x_oneS hzB ?_; refine e_one 24 rfl (by kernel_rfl) ?_; refine o_call (copySpans_fn s.a s.c s.xs hll) rfl rfl rfl (by exact .nil) (fun _ st => (RdK.old0 hsr).out _ st) (fun v66 S66 ⟨a66, c66, hv66, hO66⟩ => ?_); subst hv66
     refine o_nil ?_; refine x_oneS hzB ?_; refine e_one 25 rfl (by kernel_rfl) ?_; refine o_callP (fLong_fn a61 c61 qs a66 c66 s.xs w.length hwl hg.all (fun q hq => by have := (hqr q hq); exact ab_le hqa hpb q hq)) rfl rfl rfl (fun _ st => ⟨(hO61.rdk hiA).out _ st, (hO66.rdk hiA).out _ st⟩) (fun v67 hv67 => ?_)
     rw [hqa] at hv67
     subst hv67; refine o_nil ?_; refine x_oneS hzB ?_; refine e_one 26 rfl (by kernel_rfl) ?_; refine o_step rfl (s_add rfl rfl (by omega)) ?_; refine o_nil ?_; refine x_oneS hzB ?_; refine e_one 27 rfl (by kernel_rfl) ?_; refine o_step rfl (s_min rfl rfl) ?_; refine o_nil ?_; refine x_oneS hzB ?_; refine e_one 28 rfl (by kernel_rfl) ?_; refine o_step rfl (s_assign rfl) ?_; refine o_nil ?_; refine x_oneS hzB ?_; refine e_done (by kernel_rfl) ?_; refine x_block ?_; refine x_then (hK8 _ _ ?_); refine c_region ?_; refine o_step rfl (s_move rfl) ?_; refine o_step rfl (s_add rfl rfl (by omega)) ?_; refine o_step rfl (s_assign rfl) ?_; refine o_nil ?_; exact x_then (x_inv (i + 1, ds ++ [s.xs], _) ⟨by dsimp only; omega, chs_yes hxi hds (by rintro (h | ⟨_, h⟩); omega; exact h (List.eq_nil_of_length_eq_zero (by omega))), by simp; omega, hZ.step hg hwl⟩ (by first | omega | (dsimp only; omega)) sbA hzB)
  ·
   obtain rfl : i = xs.length := by rw [← hxs, List.length_map]; omega
   rw [List.take_length] at hds
   refine c_exit ?_; refine x_then_exit ?_; refine x_then_exit ?_; refine x_block_exit ?_; refine x_then (hK4 _ _ ?_); refine c_seq fun _ hK13 => ?_; refine c_region ?_; refine o_step rfl (s_move rfl) ?_; refine o_step rfl (s_assign rfl) ?_; refine o_nil ?_; refine x_then (hK13 _ _ ?_); refine c_ret ?_; refine ?_; exact x_ret rfl (.tmp rfl (.nil)) (⟨Z, rfl, fun hz => by rw [← hds]; exact hZ.fin (hds ▸ hcg.chs first all) hwl hz⟩)
end Go.Proofs.Ytmpeokbongnniaa

/- Part of the proofs over this seat: see the text that holds the theorem. Conditions: each theorem bears its own. -/
namespace Go.Proofs.Ytmpeokbongnniaa
open Go Go.HL Go.Proofs Go.HL.Kl Go.HL.Kl.Mc Go.HL.Kl.Mc.AskE
theorem ownl_rdm {E : Sp → List Value} {k T : Nat} {sls : List (Sl Sp)} {xs : List (List Sp)} {S : Hp} (h : OwnL E k T sls xs S) (hx : sls.map Sl.xs = xs) : ∀ s ∈ sls, RdS E s.v s.xs S := by
  induction h with
  | nil => intro s hs; cases hs
  | @cons s ys sls xss S R h hs ih =>
    simp only [List.map_cons, List.cons.injEq] at hx
    obtain ⟨rfl, hx⟩ := hx
    intro t ht
    rcases List.mem_cons.1 ht with rfl | ht
    · exact h.rds.mono HIn.appL
    · exact (ih hx t ht).mono HIn.appR
end Go.Proofs.Ytmpeokbongnniaa

/- An interface that holds something is not nil. Conditions: none. -/
namespace Go.HL
open Go
theorem s_nili {P : Program} {κ : Cx} {L : Loc} {H : Hp} {ty tv : TypeId} {x : Operand} {v : Value} (hx : ev L x = some (.iface tv v)) : Step P κ (.nilCheck x) ty L H (.iface tv v) :=
  ⟨fun ρ w d pos af g hρ _ => by simp [execOp, hρ _ _ hx]⟩
end Go.HL

/- Part of the proofs over this seat: see the text that holds the theorem. Conditions: each theorem bears its own. -/
namespace Go.Proofs.Ytmpeokbongnniaa
open Go Go.HL Go.Proofs Go.HL.Kl Go.HL.Kl.Mc Go.HL.Kl.Mc.AskE
instance tmPl : TM Try.prog 93 "galley/regex.find" 83 := tm_of (by kernel_rfl) (by kernel_rfl)
theorem plainR_fn (ra : Option Addr) (rc : Nat) (re : List Nd) (hre : ∀ x ∈ re, -128 ≤ x.op ∧ x.op < 128) (xa : Option Addr) (xc : Nat) (w : List UInt8) (hwl : w.length ≤ 1000000) (x : Nd) (ks : Mc.F) (hM : May re w x ks) (ma : Option Addr) (mc : Nat) (f : Nat) : HL.Fn Try.prog 83 [.agg #[.slice ma (mach (.nd x ks .nil)).length mc], .slice ra re.length rc, .slice xa w.length xc, .int .i64 f] (fun W => Rd Ein W (.slice ma (mach (.nd x ks .nil)).length mc) (mach (.nd x ks .nil)) ∧ Rd En W (.slice ra re.length rc) re ∧ Rd Eb W (.slice xa w.length xc) w) [] (fun v S' => ∃ b L a c, v = .tuple #[.slice a L.length c, .bool b] ∧ OwnS Esp 2 51 (.slice a L.length c) L S' ∧ FRes re w (f : Int) b L) := by
  refine Fn.sub (plainO_fn ra rc re hre xa xc w hwl x ks hM ma mc f) fun v S' ⟨S2, h1, h2⟩ => ?_
  obtain ⟨b, L, a, c, h3, h4, h5⟩ := h2.res
  exact ⟨S2, h1, b, L, a, c, h4, h5, h3⟩
set_option maxHeartbeats 4000000 in
theorem allR_fn (w : List UInt8) (hwl : w.length ≤ 1000000) (re : List Nd) (hre : ∀ x ∈ re, -128 ≤ x.op ∧ x.op < 128) (bR : Nat) (x : Nd) (ks : Mc.F) (hMy : May re w x ks) (a1 am : Option Addr) (c1 : Nat) (Sr Sm : Hp) (hOr : OwnS En 9 85 (.slice a1 re.length c1) re Sr) (hOm : OwnS Ein 7 109 (.slice am (mach (.nd x ks .nil)).length (mach (.nd x ks .nil)).length) (mach (.nd x ks .nil)) Sm) (bt br : Nat) (ta : Option Addr) (tc : Nat) (St : Hp) (hOT : OwnS Eb 1 5 (.slice ta w.length tc) w St) (xs : List (List Sp)) (hM0 : MtS (stpR re w) w.length () 0 (-1) xs)
    (l : Nat) (HY HX : List (List Sp) → Hp → Prop) (hY : ∀ pre x vs Sx B, HY pre B → pre ++ [x] <+: xs → EvSp x vs Sx → Yd Try.prog l vs (B ++ Sx) (fun v B' => (v = .bool true ∧ HY (pre ++ [x]) B') ∨ (v = .bool false ∧ HX (pre ++ [x]) B'))) (B : Hp) (hB : HY [] B) : HL.Fn Try.prog 31 [.func (.yield l) #[] #[], pt br, pt bt] (fun _ => True) (((bt, .cells [.slice ta w.length tc].toArray 23 (0, 0)) :: (br, .cells [pt bR].toArray 24 (0, 0)) :: (St ++ ((bR, .cells [.slice a1 re.length c1, .iface 93 (.agg #[.slice am (mach (.nd x ks .nil)).length (mach (.nd x ks .nil)).length]), .int .i64 ((gcn re : Nat) : Int)].toArray 76 (0, 0)) :: (Sr ++ Sm)))) ++ B) (fun _ S' => ∃ S1 B', S' = S1 ++ B' ∧ S1 = (bt, .cells [.slice ta w.length tc].toArray 23 (0, 0)) :: (br, .cells [pt bR].toArray 24 (0, 0)) :: (St ++ ((bR, .cells [.slice a1 re.length c1, .iface 93 (.agg #[.slice am (mach (.nd x ks .nil)).length (mach (.nd x ks .nil)).length]), .int .i64 ((gcn re : Nat) : Int)].toArray 76 (0, 0)) :: (Sr ++ Sm))) ∧ (HY xs B' ∨ ∃ p, p <+: xs ∧ HX p B')) := by
  refine fn_of Try.func31 rfl rfl rfl fun w0 hw => ?_; refine c_seq fun _ hK1 => ?_; refine c_seq fun _ hK2 => ?_; refine c_region ?_; refine o_step rfl (s_ld rfl (.own meA rfl)) ?_; refine o_step rfl (step_cast (v' := .bool false) (s_eql_nilp rfl rfl) rfl) ?_; refine o_step rfl (s_move rfl) ?_; refine o_yes rfl rfl ?_; refine o_step rfl (s_ld rfl (.own meA rfl)) ?_; refine o_yes rfl rfl ?_; refine o_step rfl (s_nil rfl) ?_; refine o_yes rfl rfl ?_; refine o_step rfl (s_field rfl rfl (by decide)) ?_; refine o_yes rfl rfl ?_; refine o_step rfl (s_ld rfl (.own meA rfl)) ?_; refine o_yes rfl rfl ?_; refine o_step rfl (s_eql_ifacen (by kernel_rfl) rfl) ?_; refine o_step rfl (s_pick_f rfl rfl) ?_; refine o_nil ?_; refine x_then (hK2 _ _ ?_); refine c_false rfl ?_; refine c_skip ?_; refine x_then (hK1 _ _ ?_); refine c_seq fun _ hK3 => ?_; refine c_region ?_; refine o_step rfl (s_assign rfl) ?_
  refine o_step rfl (s_assign rfl) ?_; refine o_nil ?_; refine x_then (hK3 _ _ ?_); refine c_block ?_; refine c_loop5 (fun (a : Nat) (last : Int) (B1 : Hp) (p : List (List Sp)) (r : List (List Sp)) => xs = p ++ r ∧ MtS (stpR re w) w.length () a last r ∧ HY p B1 ∧ a ≤ w.length + 1) (fun (a : Nat) (last : Int) (B1 : Hp) (p : List (List Sp)) (r : List (List Sp)) => [(5, .int .i64 last), (4, .int .i64 a)]) [(0, _), (1, _), (2, _)] (fun (a : Nat) (last : Int) (B1 : Hp) (p : List (List Sp)) (r : List (List Sp)) => (((bt, .cells [.slice ta w.length tc].toArray 23 (0, 0)) :: (br, .cells [pt bR].toArray 24 (0, 0)) :: (St ++ ((bR, .cells [.slice a1 re.length c1, .iface 93 (.agg #[.slice am (mach (.nd x ks .nil)).length (mach (.nd x ks .nil)).length]), .int .i64 ((gcn re : Nat) : Int)].toArray 76 (0, 0)) :: (Sr ++ Sm)))) ++ B1)) (fun (a : Nat) (last : Int) (B1 : Hp) (p : List (List Sp)) (r : List (List Sp)) => 2 * (w.length + 1 - a) + (if last = (a : Nat) then 0 else 1)) 0 (-1) B [] xs ⟨rfl, hM0, hB, by omega⟩ sbA sbA (by exact HSub.refl _) ?_
  rintro a last B1 p r ⟨hxs, hM, hHB, hal⟩
  refine c_seq fun _ hK4 => ?_; refine c_seq fun _ hK5 => ?_; refine c_region ?_; refine o_step rfl (s_move rfl) ?_; refine o_step rfl (s_ld rfl (.own meA rfl)) ?_; refine o_step rfl (s_len rfl) ?_; refine o_step rfl (s_leq rfl rfl) ?_; refine o_nil ?_; refine x_then (hK5 _ _ ?_); refine c_if rfl (fun hle => ?_) (fun hle => ?_)
  ·
   have ha : a ≤ w.length := by omega
   refine c_skip ?_; refine x_then (hK4 _ _ ?_); refine c_block ?_; refine c_seq fun _ hK6 => ?_; refine c_drawE ([(bt, .cells [.slice ta w.length tc].toArray 23 (0, 0)), (br, .cells [pt bR].toArray 24 (0, 0)), (bR, .cells [.slice a1 re.length c1, .iface 93 (.agg #[.slice am (mach (.nd x ks .nil)).length (mach (.nd x ks .nil)).length]), .int .i64 ((gcn re : Nat) : Int)].toArray 76 (0, 0))]) (fun i => false) ?_; refine e_tk 0 rfl hzB (s_ld rfl (.own meA rfl)) ?_; refine e_pr 1 rfl (s_nil rfl) ?_; refine e_pr 2 rfl (s_field rfl rfl (by decide)) ?_; refine e_tk 3 rfl hzB (s_ld rfl (.own meA rfl)) ?_; refine e_tk 4 rfl hzB (s_ld rfl (.own meA rfl)) ?_; refine e_pr 5 rfl (s_nil rfl) ?_; refine e_pr 6 rfl (s_field rfl rfl (by decide)) ?_; refine e_tk 7 rfl hzB (s_ld rfl (.own meA rfl)) ?_; refine e_tk 8 rfl hzB (s_ld rfl (.own meA rfl)) ?_; refine e_pr 9 rfl (s_move rfl) ?_; refine e_pr 10 rfl (s_nili rfl) ?_
   refine e_pr 11 rfl (s_move rfl) ?_; refine e_one 12 rfl (by kernel_rfl) ?_; refine o_invoke (plainR_fn a1 c1 re hre ta tc w hwl x ks hMy am (mach (.nd x ks .nil)).length a) rfl rfl rfl (by exact .nil) (fun _ st => ⟨(hOm.rdk hiA).out _ st, (hOr.rdk hiA).out _ st, (hOT.rdk hiA).out _ st⟩) (fun v34 S34 ⟨b, L, a34, c34, hv34, hOL, hf⟩ => ?_); subst hv34
   have hstp : stpR re w () a b L () := hf
   cases b
   ·
    obtain rfl : L = [] := hf.none
    obtain rfl := hM.at_none stpR_det ha hstp
    rw [List.append_nil] at hxs
    subst hxs; refine o_nil ?_; refine x_oneS hzB ?_; refine e_pr 13 rfl (s_move rfl) ?_; refine e_pr 14 rfl (s_extract rfl rfl) ?_; refine e_pr 15 rfl (s_extract rfl rfl) ?_; refine e_pr 16 rfl (s_assign rfl) ?_; refine e_pr 17 rfl (s_assign rfl) ?_; refine e_done (by kernel_rfl) ?_; refine x_then (hK6 _ _ ?_); refine c_seq fun _ hK7 => ?_; refine c_seq fun _ hK8 => ?_; refine c_region ?_; refine o_step rfl (s_move rfl) ?_; refine o_step rfl (s_not rfl) ?_; refine o_nil ?_; refine x_then (hK8 _ _ ?_); refine c_true rfl ?_; refine c_ret ?_; refine x_then_ret (x_block_ret (x_then_ret (x_block_ret (?_))))
    refine x_sub (Sub.refl _) (H' := ((bt, .cells [.slice ta w.length tc].toArray 23 (0, 0)) :: (br, .cells [pt bR].toArray 24 (0, 0)) :: (St ++ ((bR, .cells [.slice a1 re.length c1, .iface 93 (.agg #[.slice am (mach (.nd x ks .nil)).length (mach (.nd x ks .nil)).length]), .int .i64 ((gcn re : Nat) : Int)].toArray 76 (0, 0)) :: (Sr ++ Sm)))) ++ B1) hzB ?_; exact x_ret rfl (.nil) (⟨_, B1, rfl, rfl, .inl hHB⟩)
   ·
    obtain ⟨p2, q2, hg, hcase⟩ := hM.at_some stpR_det ha hstp
    have hgh := hg.hd
    have hg1 := hg.ge
    have hg2 := hg.le
    have hg3 := hg.ln
    have hLl := hg.len
    have hLp : 0 < L.length := (List.getElem?_eq_some_iff.1 hgh).1
    have hOs := hOL.sl
    refine o_nil ?_; refine x_oneS hzB ?_; refine e_pr 13 rfl (s_move rfl) ?_; refine e_pr 14 rfl (s_extract rfl rfl) ?_; refine e_pr 15 rfl (s_extract rfl rfl) ?_; refine e_pr 16 rfl (s_assign rfl) ?_; refine e_pr 17 rfl (s_assign rfl) ?_; refine e_done (by kernel_rfl) ?_; refine x_then (hK6 _ _ ?_); refine c_seq fun _ hK9 => ?_; refine c_seq fun _ hK10 => ?_; refine c_region ?_; refine o_step rfl (s_move rfl) ?_; refine o_step rfl (s_not rfl) ?_; refine o_nil ?_; refine x_then (hK10 _ _ ?_); refine c_false rfl ?_; refine c_skip ?_; refine x_then (hK9 _ _ ?_); refine c_seq fun _ hK11 => ?_; refine c_seq fun _ hK12 => ?_; refine c_region ?_; refine o_step rfl (s_move rfl) ?_; refine o_step rfl (s_idx rfl rfl hOs (by omega)) ?_; refine o_step rfl (s_field rfl rfl (by decide)) ?_; refine o_step rfl (s_ld rfl ((hOL.rdk hiA).ld 0 1 hgh rfl (by decide) (by omega))) ?_; refine o_step rfl (s_move rfl) ?_
    by_cases hql : (q2 : Int) = last
    ·
     refine o_step rfl (step_cast (v' := .bool true) (s_eql rfl rfl) (by rw [decide_eq_true hql])) ?_; refine o_step rfl (s_move rfl) ?_; refine o_yes rfl rfl ?_; refine o_step rfl (s_move rfl) ?_; refine o_yes rfl rfl ?_; refine o_step rfl (s_idx rfl rfl hOs (by omega)) ?_; refine o_yes rfl rfl ?_; refine o_step rfl (s_field rfl rfl (by decide)) ?_; refine o_yes rfl rfl ?_; refine o_step rfl (s_ld rfl ((hOL.rdk hiA).ld 0 0 hgh rfl (by decide) (by omega))) ?_; refine o_yes rfl rfl ?_; refine o_step rfl (s_move rfl) ?_; refine o_yes rfl rfl ?_
     by_cases hpl : (p2 : Int) = last
     ·
      obtain ⟨_, _, hM2⟩ := hcase.resolve_right (fun h => h.1 ⟨by omega, by omega⟩)
      refine o_step rfl (step_cast (v' := .bool true) (s_eql rfl rfl) (by rw [decide_eq_true hpl])) ?_; refine o_step rfl (s_pick_t rfl rfl) ?_; refine o_nil ?_; refine x_then (hK12 _ _ ?_); refine c_true rfl ?_; refine c_seq fun _ hK13 => ?_; refine c_region ?_; refine o_step rfl (s_move rfl) ?_; refine o_step rfl (s_add rfl rfl (by omega)) ?_; refine o_step rfl (s_assign rfl) ?_; refine o_nil ?_; refine x_then (hK13 _ _ ?_); refine c_exit ?_; refine x_then_exit ?_; refine x_block_exit ?_; exact x_then (x_inv (a + 1, last, B1, p, r) ⟨hxs, hM2, hHB, by dsimp only; omega⟩ (by dsimp only; split <;> split <;> omega) sbA hzB)
     ·
      have hnl : ¬ (p2 = q2 ∧ last = p2) := fun h => hpl (by omega)
      obtain ⟨_, r2, hr2, hM2⟩ := hcase.resolve_left (fun h => hnl ⟨h.1, h.2.1⟩)
      have hpre : p ++ [L] <+: xs := ⟨r2, by rw [hxs, hr2, List.append_assoc]; rfl⟩
      refine o_step rfl (step_cast (v' := .bool false) (s_eql rfl rfl) (by rw [decide_eq_false hpl])) ?_; refine o_step rfl (s_pick_t rfl rfl) ?_; refine o_nil ?_; refine x_then (hK12 _ _ ?_); refine c_false rfl ?_; refine c_skip ?_; refine x_then (hK11 _ _ ?_); refine c_seq fun _ hK14 => ?_; refine c_quiet (by kernel_rfl) ?_; refine .op rfl (s_move rfl) ?_; refine .op rfl (s_idx rfl rfl hOs (by omega)) ?_; refine .op rfl (s_field rfl rfl (by decide)) ?_; refine .op rfl (s_ld rfl ((hOL.rdk hiA).ld 0 1 hgh rfl (by decide) (by omega))) ?_; refine .op rfl (s_move rfl) ?_; refine .op rfl (s_idx rfl rfl hOs (by omega)) ?_; refine .op rfl (s_field rfl rfl (by decide)) ?_; refine .op rfl (s_ld rfl ((hOL.rdk hiA).ld 0 1 hgh rfl (by decide) (by omega))) ?_; refine .op rfl (s_assign rfl) ?_; refine .op rfl (s_assign rfl) ?_; refine .nil ?_; refine x_then (hK14 _ _ ?_); refine c_seq fun _ hK15 => ?_
      refine c_region ?_; refine o_step rfl (s_move rfl) ?_; refine o_step rfl (s_move rfl) ?_; refine o_yield (hY p L _ _ B1 hHB hpre ⟨_, _, rfl, hOL⟩) rfl rfl rfl ((Pick.takeA pkA pkA)) (fun v65 S65 hv65 => ?_)
      rcases hv65 with ⟨rfl, hH3⟩ | ⟨rfl, hX3⟩
      ·
       refine o_step rfl (s_not rfl) ?_; refine o_nil ?_; refine x_then (hK15 _ _ ?_); refine c_false rfl ?_; refine c_skip ?_; refine x_block ?_; exact x_then (x_inv (q2, (q2 : Int), S65, p ++ [L], r2) ⟨by rw [hxs, hr2, List.append_assoc]; rfl, hM2, hH3, by dsimp only; omega⟩ (by dsimp only; exact mt_meas hg hnl) sbA hzB)
      ·
       refine o_step rfl (s_not rfl) ?_; refine o_nil ?_; refine x_then (hK15 _ _ ?_); refine c_true rfl ?_; refine c_ret ?_; refine x_block_ret (x_then_ret (x_block_ret (?_)))
       refine x_sub (Sub.refl _) (H' := ((bt, .cells [.slice ta w.length tc].toArray 23 (0, 0)) :: (br, .cells [pt bR].toArray 24 (0, 0)) :: (St ++ ((bR, .cells [.slice a1 re.length c1, .iface 93 (.agg #[.slice am (mach (.nd x ks .nil)).length (mach (.nd x ks .nil)).length]), .int .i64 ((gcn re : Nat) : Int)].toArray 76 (0, 0)) :: (Sr ++ Sm)))) ++ S65) hzB ?_; exact x_ret rfl (.nil) (⟨_, S65, rfl, rfl, .inr ⟨_, hpre, hX3⟩⟩)
    ·
     have hnl : ¬ (p2 = q2 ∧ last = p2) := fun h => hql (by omega)
     obtain ⟨_, r2, hr2, hM2⟩ := hcase.resolve_left (fun h => hnl ⟨h.1, h.2.1⟩)
     have hpre : p ++ [L] <+: xs := ⟨r2, by rw [hxs, hr2, List.append_assoc]; rfl⟩
     refine o_step rfl (step_cast (v' := .bool false) (s_eql rfl rfl) (by rw [decide_eq_false hql])) ?_; refine o_step rfl (s_move rfl) ?_; refine o_no rfl rfl rfl rfl ?_; refine o_no rfl rfl rfl rfl ?_; refine o_no rfl rfl rfl rfl ?_; refine o_no rfl rfl rfl rfl ?_; refine o_no rfl rfl rfl rfl ?_; refine o_no rfl rfl rfl rfl ?_; refine o_step rfl (s_pick_f rfl rfl) ?_; refine o_nil ?_; refine x_then (hK12 _ _ ?_); refine c_false rfl ?_; refine c_skip ?_; refine x_then (hK11 _ _ ?_); refine c_seq fun _ hK16 => ?_; refine c_quiet (by kernel_rfl) ?_; refine .op rfl (s_move rfl) ?_; refine .op rfl (s_idx rfl rfl hOs (by omega)) ?_; refine .op rfl (s_field rfl rfl (by decide)) ?_; refine .op rfl (s_ld rfl ((hOL.rdk hiA).ld 0 1 hgh rfl (by decide) (by omega))) ?_; refine .op rfl (s_move rfl) ?_; refine .op rfl (s_idx rfl rfl hOs (by omega)) ?_; refine .op rfl (s_field rfl rfl (by decide)) ?_; refine .op rfl (s_ld rfl ((hOL.rdk hiA).ld 0 1 hgh rfl (by decide) (by omega))) ?_
     refine .op rfl (s_assign rfl) ?_; refine .op rfl (s_assign rfl) ?_; refine .nil ?_; refine x_then (hK16 _ _ ?_); refine c_seq fun _ hK17 => ?_; refine c_region ?_; refine o_step rfl (s_move rfl) ?_; refine o_step rfl (s_move rfl) ?_; refine o_yield (hY p L _ _ B1 hHB hpre ⟨_, _, rfl, hOL⟩) rfl rfl rfl ((Pick.takeA pkA pkA)) (fun v65 S65 hv65 => ?_)
     rcases hv65 with ⟨rfl, hH3⟩ | ⟨rfl, hX3⟩
     ·
      refine o_step rfl (s_not rfl) ?_; refine o_nil ?_; refine x_then (hK17 _ _ ?_); refine c_false rfl ?_; refine c_skip ?_; refine x_block ?_; exact x_then (x_inv (q2, (q2 : Int), S65, p ++ [L], r2) ⟨by rw [hxs, hr2, List.append_assoc]; rfl, hM2, hH3, by dsimp only; omega⟩ (by dsimp only; exact mt_meas hg hnl) sbA hzB)
     ·
      refine o_step rfl (s_not rfl) ?_; refine o_nil ?_; refine x_then (hK17 _ _ ?_); refine c_true rfl ?_; refine c_ret ?_; refine x_block_ret (x_then_ret (x_block_ret (?_)))
      refine x_sub (Sub.refl _) (H' := ((bt, .cells [.slice ta w.length tc].toArray 23 (0, 0)) :: (br, .cells [pt bR].toArray 24 (0, 0)) :: (St ++ ((bR, .cells [.slice a1 re.length c1, .iface 93 (.agg #[.slice am (mach (.nd x ks .nil)).length (mach (.nd x ks .nil)).length]), .int .i64 ((gcn re : Nat) : Int)].toArray 76 (0, 0)) :: (Sr ++ Sm)))) ++ S65) hzB ?_; exact x_ret rfl (.nil) (⟨_, S65, rfl, rfl, .inr ⟨_, hpre, hX3⟩⟩)
  ·
   obtain rfl := hM.out_nil (by omega)
   rw [List.append_nil] at hxs
   subst hxs; refine c_exit ?_; refine x_then_exit ?_; refine x_then_exit ?_; refine x_block_exit ?_; refine x_sub (Sub.refl _) (H' := ((bt, .cells [.slice ta w.length tc].toArray 23 (0, 0)) :: (br, .cells [pt bR].toArray 24 (0, 0)) :: (St ++ ((bR, .cells [.slice a1 re.length c1, .iface 93 (.agg #[.slice am (mach (.nd x ks .nil)).length (mach (.nd x ks .nil)).length]), .int .i64 ((gcn re : Nat) : Int)].toArray 76 (0, 0)) :: (Sr ++ Sm)))) ++ B1) hzB ?_; exact x_end rfl (.nil) (⟨_, B1, rfl, rfl, .inl hHB⟩)

theorem allC_fn (vF : Value) (hv1 : vF.oneCell' = true) (xa : Option Addr) (xc : Nat) (w : List UInt8) : HL.Fn Try.prog 16 [vF, .slice xa w.length xc] (fun W => Rd Eb W (.slice xa w.length xc) w) [] (fun v S' => ∃ br bt ta tc St, v = .func (.func 31) [].toArray [pt br, pt bt].toArray ∧ OwnS Eb 1 5 (.slice ta w.length tc) w St ∧ S' = (bt, .cells [.slice ta w.length tc].toArray 23 (0, 0)) :: (br, .cells [vF].toArray 24 (0, 0)) :: St) := by
  refine fn_of Try.func16 rfl rfl rfl fun w0 hw => ?_; refine c_seq fun _ hK1 => ?_; refine c_region ?_; refine o_box rfl (cells_one hv1) rfl fun b2 => ?_; refine o_box rfl rfl rfl fun b3 => ?_; refine o_step rfl (s_assign rfl) ?_; refine o_nil ?_; refine x_then (hK1 _ _ ?_); refine c_seq fun _ hK2 => ?_; refine c_region ?_; refine o_step rfl (s_ld rfl (.own meA rfl)) ?_; refine o_call (clone_fn xa xc w) rfl rfl rfl (by exact .nil) (fun _ st => (RdK.old0 hw).out _ st) (fun v6 S6 ⟨a6, c6, hv6, hS6⟩ => ?_); subst hv6
  refine o_store rfl rfl rfl upA ltA rfl ?_; refine o_nil ?_; refine x_then (hK2 _ _ ?_); refine c_seq fun _ hK3 => ?_; refine c_region ?_; refine o_step rfl (s_func (us := []) (vs := [_, _]) rfl rfl) ?_; refine o_step rfl (s_assign rfl) ?_; refine o_nil ?_; refine x_then (hK3 _ _ ?_); refine c_ret ?_; refine ?_; refine x_sub (Sub.refl _) (H' := (b3, .cells [.slice a6 w.length c6].toArray 23 (0, 0)) :: (b2, .cells [vF].toArray 24 (0, 0)) :: S6) hzB ?_; exact x_ret rfl (.tmp rfl (.nil)) (⟨_, _, _, _, _, rfl, hS6, rfl⟩)

theorem all_it (w : List UInt8) (hwl : w.length ≤ 1000000) (re : List Nd) (hre : ∀ x ∈ re, -128 ≤ x.op ∧ x.op < 128) (bR : Nat) (x : Nd) (ks : Mc.F) (hMy : May re w x ks) (a1 am : Option Addr) (c1 : Nat) (Sr Sm : Hp) (hOr : OwnS En 9 85 (.slice a1 re.length c1) re Sr) (hOm : OwnS Ein 7 109 (.slice am (mach (.nd x ks .nil)).length (mach (.nd x ks .nil)).length) (mach (.nd x ks .nil)) Sm) (bt br : Nat) (ta : Option Addr) (tc : Nat) (St : Hp) (hOT : OwnS Eb 1 5 (.slice ta w.length tc) w St) (xs : List (List Sp)) (hM0 : MtS (stpR re w) w.length () 0 (-1) xs) : ItV Try.prog 31 [] [pt br, pt bt] EvSp xs (fun _ _ => True) ((bt, .cells [.slice ta w.length tc].toArray 23 (0, 0)) :: (br, .cells [pt bR].toArray 24 (0, 0)) :: (St ++ ((bR, .cells [.slice a1 re.length c1, .iface 93 (.agg #[.slice am (mach (.nd x ks .nil)).length (mach (.nd x ks .nil)).length]), .int .i64 ((gcn re : Nat) : Int)].toArray 76 (0, 0)) :: (Sr ++ Sm)))) (fun S1 => S1 = (bt, .cells [.slice ta w.length tc].toArray 23 (0, 0)) :: (br, .cells [pt bR].toArray 24 (0, 0)) :: (St ++ ((bR, .cells [.slice a1 re.length c1, .iface 93 (.agg #[.slice am (mach (.nd x ks .nil)).length (mach (.nd x ks .nil)).length]), .int .i64 ((gcn re : Nat) : Int)].toArray 76 (0, 0)) :: (Sr ++ Sm)))) :=
  ⟨enters_of Try.func31 rfl rfl, fun l HY HX hY B hB => allR_fn w hwl re hre bR x ks hMy a1 am c1 Sr Sm hOr hOm bt br ta tc St hOT xs hM0 l HY HX hY B hB⟩
end Go.Proofs.Ytmpeokbongnniaa

/- The changed text, grown from match to match. Conditions: none. -/
namespace Go.HL.Kl.Mc
open Go Go.HL Go.HL.Kl AskE
def WI (w : List UInt8) (P : List (Int × List UInt8)) (ds : List (List Sp)) (a : Nat) (o : List UInt8) : Prop :=
  ∃ X e, o = X ++ (w.drop e).take (a - e) ∧ e ≤ a ∧ ∀ rest, doF w P 0 (ds ++ rest) = X ++ doF w P e rest
theorem WI.init {w : List UInt8} {P : List (Int × List UInt8)} : WI w P [] 0 [] := ⟨[], 0, by simp, Nat.le_refl _, fun rest => by simp⟩
section
variable {w : List UInt8} {P : List (Int × List UInt8)} {ds : List (List Sp)} {a : Nat} {o : List UInt8}
theorem WI.no (h : WI w P ds a o) {q : Nat} (hq : a ≤ q) : WI w P ds q (o ++ (w.drop a).take (q - a)) := by
  obtain ⟨X, e, rfl, he, hr⟩ := h
  exact ⟨X, e, by rw [List.append_assoc, take_split he hq], Nat.le_trans he hq, hr⟩
theorem WI.yes (h : WI w P ds a o) {L : List Sp} {p q : Nat} (hg : GoodL w.length a L p q) : WI w P (ds ++ [L]) q (o ++ (w.drop a).take (p - a) ++ expd w P L) := by
  obtain ⟨X, e, rfl, he, hr⟩ := h
  refine ⟨X ++ ((w.drop e).take (p - e) ++ expd w P L), q, ?_, Nat.le_refl _, fun rest => ?_⟩
  · rw [Nat.sub_self, List.take_zero, List.append_nil, ← take_split he hg.ge]; simp [List.append_assoc]
  · rw [List.append_assoc, List.singleton_append, hr, doF_cons (hg.mono he)]; simp only [List.append_assoc]
theorem WI.fin (h : WI w P ds a o) : o ++ w.drop a = doF w P 0 ds := by
  obtain ⟨X, e, rfl, he, hr⟩ := h
  have h := hr []
  rw [List.append_nil] at h
  rw [h, List.append_assoc, drop_split he]; rfl
theorem WI.len (h : WI w P ds a o) {D : List (List Sp)} (hp : ds <+: D) : o.length ≤ (doF w P 0 D).length + w.length := by
  obtain ⟨X, e, rfl, he, hr⟩ := h
  obtain ⟨t, rfl⟩ := hp
  rw [hr]; simp; omega
end
theorem chs_pre {first : Int} {all : Bool} {xs : List (List Sp)} (i : Nat) : chs first all (xs.take i) <+: chs first all xs := by
  have h : (xs.take i).drop (first - 1).toNat <+: xs.drop (first - 1).toNat := by
    have h1 := congrArg (List.drop (first - 1).toNat) (List.take_append_drop i xs)
    rw [List.drop_append] at h1
    exact ⟨_, h1⟩
  unfold chs; split
  · exact h
  · obtain ⟨t, ht⟩ := h; rw [← ht, List.take_append]; exact List.prefix_append _ _
theorem ChL.inv {n a : Nat} {last : Int} {L : List Sp} {xs : List (List Sp)} (h : ChL n a last (L :: xs)) : ∃ p q, GoodL n a L p q ∧ ¬ (p = q ∧ last = p) ∧ ChL n q q xs := by
  cases h with
  | cons hg hl hr => exact ⟨_, _, hg, hl, hr⟩
end Go.HL.Kl.Mc
