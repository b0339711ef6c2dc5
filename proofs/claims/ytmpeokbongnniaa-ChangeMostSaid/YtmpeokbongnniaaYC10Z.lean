/- Part of the proofs over this seat: see the text that holds the theorem. Conditions: each theorem bears its own. -/
import Derived.Test.YtmpeokbongnniaaHTZ
import Derived.Test.YtmpeokbongnniaaYC7Z
namespace Go.Proofs.Ytmpeokbongnniaa
open Go Go.HL Go.Proofs Go.HL.Kl Go.HL.Kl.Mc Go.HL.Kl.Mc.AskE
/-- the size so far: right, or far beyond -/
def SzI (n : Nat) (P : List (Int × List UInt8)) (ds : List (List Sp)) (Z : Int) : Prop := (Z = (n : Int) + sumC P ds - sumD ds ∨ 2199023255552 - (sumD ds : Int) ≤ Z) ∧ Z ≤ 2199024255552
theorem SzI.step {n : Nat} {P : List (Int × List UInt8)} {ds : List (List Sp)} {Z : Int} {L : List Sp} {a p q : Nat} (h : SzI n P ds Z) (hg : GoodL n a L p q) (hn : n ≤ 1000000) : SzI n P (ds ++ [L]) (min (Z - ((q : Int) - p) + ((min (longS L P) 1099511627776 : Nat) : Int)) 2199023255552) := by
  have e1 : sumD [L] = q - p := by simp [sumD, hg.hds]
  have e2 : sumC P [L] = min (longS L P) 1099511627776 := by simp [sumC]
  have h1 := hg.le
  unfold SzI at h ⊢
  rw [sumD_app, sumC_app, e1, e2]
  generalize min (longS L P) 1099511627776 = m at *
  have h2 : ((q - p : Nat) : Int) = q - p := by omega
  push_cast
  rw [h2]
  omega
theorem SzI.fin {w : List UInt8} {P : List (Int × List UInt8)} {ds : List (List Sp)} {Z : Int} (h : SzI w.length P ds Z) (hc : ChG w.length 0 ds) (hn : w.length ≤ 1000000) (hz : Z ≤ 2147483647) : ((doF w P 0 ds).length : Int) = Z := by
  have h1 := hc.sumD_le (Nat.zero_le _)
  have h2 := doF_len (P := P) hc (Nat.zero_le _)
  obtain ⟨h3 | h3, _⟩ := h
  · rw [sumC_eq (by omega)] at h3
    omega
  · omega
theorem chs_nil {first : Int} {all : Bool} : chs first all [] = [] := by unfold chs; split <;> simp
theorem chs_no {first : Int} {all : Bool} {xs ds : List (List Sp)} {i : Nat} {L : List Sp} (h : xs[i]? = some L) (hd : ds = chs first all (xs.take i)) (hc : i < (first - 1).toNat ∨ (all = false ∧ ds ≠ [])) : ds = chs first all (xs.take (i + 1)) := by
  rw [chs_step h, ← hd, if_pos hc]
theorem chs_yes {first : Int} {all : Bool} {xs ds : List (List Sp)} {i : Nat} {L : List Sp} (h : xs[i]? = some L) (hd : ds = chs first all (xs.take i)) (hc : ¬ (i < (first - 1).toNat ∨ (all = false ∧ ds ≠ []))) : ds ++ [L] = chs first all (xs.take (i + 1)) := by
  rw [chs_step h, ← hd, if_neg hc]
theorem ChG.nth {n : Nat} : ∀ {a : Nat} {xs : List (List Sp)} {i : Nat} {L : List Sp}, ChG n a xs → xs[i]? = some L → ∃ p q, GoodL n a L p q
  | a, [], i, L, _, h => by simp at h
  | a, x :: xs, 0, L, hc, h => by
    obtain ⟨p, q, hg, _⟩ := ChG.inv hc
    simp at h; subst h; exact ⟨p, q, hg⟩
  | a, x :: xs, i + 1, L, hc, h => by
    obtain ⟨p, q, hg, hr⟩ := ChG.inv hc
    obtain ⟨p', q', hg'⟩ := ChG.nth hr (by simpa using h)
    exact ⟨p', q', hg'.mono (Nat.le_trans hg.ge hg.le)⟩
theorem ab_le {qs ps : List Pc} (h : qs.map Pc.abs = ps.map Pc.abs) (hp : ∀ p ∈ ps, p.t.xs.length ≤ 140737488355328) : ∀ q ∈ qs, q.t.xs.length ≤ 140737488355328 := fun q hq => by
  have h1 := List.mem_map_of_mem (f := Pc.abs) hq
  rw [h] at h1
  obtain ⟨p, hpm, he⟩ := List.mem_map.1 h1
  have e : q.t.xs = p.t.xs := (congrArg Prod.snd he).symm
  rw [e]; exact hp p hpm
set_option maxHeartbeats 1000000 in
theorem sized_fn (sa : Option Addr) (sc : Nat) (sls : List (Sl Sp)) (xs : List (List Sp)) (hxs : sls.map Sl.xs = xs) (fa : Option Addr) (fc : Nat) (ps : List Pc) (xa : Option Addr) (xc : Nat) (w : List UInt8) (first : Int) (all : Bool) (most : Int) (hwl : w.length ≤ 1000000) (hpl : ps.length ≤ 2147483648) (hcg : ChG w.length 0 xs) (hf1 : -9223372036854775808 ≤ first ∧ first ≤ 9223372036854775807) : HL.Fn Try.prog 14 [.slice sa sls.length sc, .agg #[.slice fa ps.length fc, .slice xa w.length xc, .int .i64 first, .bool all, .int .i64 most]] (fun W => (Rd Esl W (.slice sa sls.length sc) sls ∧ ∀ s ∈ sls, Rd Esp W s.v s.xs) ∧ ((Rd Epc W (.slice fa ps.length fc) ps ∧ ∀ p ∈ ps, Rd Eb W p.t.v p.t.xs) ∧ Rd Eb W (.slice xa w.length xc) w)) [] (fun v _ => ∃ Z : Int, v = .int .i64 Z ∧ (Z ≤ 2147483647 → ((doF w (ps.map Pc.abs) 0 (chs first all xs)).length : Int) = Z)) := by
  refine fn_of Try.func14 rfl rfl rfl fun w0 hw => ?_
  obtain ⟨⟨h1, h1s⟩, ⟨h2, h2t⟩, h3⟩ := hw
  have hs1 := h1.sl
  have hbl := hs1.le
  have hpb : ∀ p ∈ ps, p.t.xs.length ≤ 140737488355328 := fun p hp => (h2t p hp).sl.le
  refine c_seq fun _ hK1 => ?_
  refine c_region ?_
  refine o_box rfl rfl rfl fun b3 => ?_
  refine o_step rfl (s_assign rfl) ?_
  refine o_nil ?_
  refine x_then (hK1 _ _ ?_)
  refine c_seq fun _ hK2 => ?_
  refine c_region ?_
  refine o_step rfl (s_field rfl rfl (by decide)) ?_
  refine o_step rfl (s_ld rfl (.own meA rfl)) ?_
  refine o_step rfl (s_len rfl) ?_
  refine o_step rfl (s_assign rfl) ?_
  refine o_nil ?_
  refine x_then (hK2 _ _ ?_)
  refine c_seq fun _ hK3 => ?_
  refine c_region ?_
  refine o_step rfl (s_assign rfl) ?_
  refine o_nil ?_
  refine x_then (hK3 _ _ ?_)
  refine c_seq fun _ hK4 => ?_
  refine c_seq fun _ hK5 => ?_
  refine c_region ?_
  refine o_step rfl (s_assign rfl) ?_
  refine o_nil ?_
  refine x_then (hK5 _ _ ?_)
  refine c_block ?_
  refine c_loop3 (fun (i : Nat) (ds : List (List Sp)) (Z : Int) => i ≤ sls.length ∧ ds = chs first all (xs.take i) ∧ ds.length ≤ i ∧ SzI w.length (ps.map Pc.abs) ds Z) (fun (i : Nat) (ds : List (List Sp)) (Z : Int) => [(7, .int .i64 i), (6, .int .i64 (ds.length : Nat)), (5, .int .i64 Z)]) [(0, _), (3, _), (4, _)] (fun (i : Nat) (ds : List (List Sp)) (Z : Int) => [(b3, .cells [.slice fa ps.length fc, .slice xa w.length xc, .int .i64 first, .bool all, .int .i64 most].toArray 41 (0, 0))]) (fun (i : Nat) (ds : List (List Sp)) (Z : Int) => sls.length - i) 0 [] (w.length : Int) ⟨Nat.zero_le _, by rw [List.take_zero, chs_nil], Nat.le_refl _, .inl (by simp [sumC, sumD]), by omega⟩ sbA sbA hzB ?_
  rintro i ds Z ⟨hi, hds, hdl, hZ⟩
  refine c_seq fun _ hK6 => ?_
  refine c_seq fun _ hK7 => ?_
  refine c_region ?_
  refine o_step rfl (s_move rfl) ?_
  refine o_step rfl (s_move rfl) ?_
  refine o_step rfl (s_len rfl) ?_
  refine o_step rfl (s_lss rfl rfl) ?_
  refine o_nil ?_
  refine x_then (hK7 _ _ ?_)
  refine c_if rfl (fun hlt => ?_) (fun hlt => ?_)
  ·
   obtain ⟨s, hs⟩ : ∃ s, sls[i]? = some s := ⟨_, List.getElem?_eq_getElem (by omega)⟩
   have hsm := List.mem_of_getElem? hs
   have hxi : xs[i]? = some s.xs := by rw [← hxs, List.getElem?_map, hs]; rfl
   obtain ⟨p2, q2, hg⟩ := ChG.nth hcg hxi
   have hg1 := hg.le
   have hg2 := hg.ln
   have hsr := h1s s hsm
   have hss := hsr.sl
   have hLp : 0 < s.xs.length := (List.getElem?_eq_some_iff.1 hg.hd).1
   have hll := hg.len
   have hZ1 := hZ.2
   have hcd := ((hcg.take i).chs first all).sumD_le (Nat.zero_le _)
   rw [← hds] at hcd
   have hZ0 : 0 ≤ Z := by rcases hZ.1 with h | h <;> omega
   refine c_skip ?_
   refine x_then (hK6 _ _ ?_)
   refine c_seq fun _ hK8 => ?_
   refine c_block ?_
   refine c_seq fun _ hK9 => ?_
   refine c_seq fun _ hK10 => ?_
   refine c_region ?_
   refine o_step rfl (s_move rfl) ?_
   refine o_step rfl (s_move rfl) ?_
   refine o_step rfl (s_idx rfl rfl hs1 (by omega)) ?_
   refine o_step rfl (s_ld rfl ((RdK.old0 h1).ld i 0 hs rfl (by decide) (by omega))) ?_
   refine o_step rfl (s_len rfl) ?_
   refine o_step rfl (s_eql_f rfl rfl (by omega)) ?_
   refine o_step rfl (s_move rfl) ?_
   refine o_yes rfl rfl ?_
   refine o_step rfl (s_move rfl) ?_
   refine o_yes rfl rfl ?_
   refine o_step rfl (s_field rfl rfl (by decide)) ?_
   refine o_yes rfl rfl ?_
   refine o_step rfl (s_ld rfl (.own meA rfl)) ?_
   refine o_yes rfl rfl ?_
   refine o_step rfl (s_max rfl rfl) ?_
   refine o_yes rfl rfl ?_
   refine o_step rfl (s_sub rfl rfl (by omega)) ?_
   refine o_yes rfl rfl ?_
   by_cases hik : (i : Int) < max first 1 - 1
   ·
    refine o_step rfl (step_cast (v' := .bool true) (s_lss rfl rfl) (by rw [decide_eq_true (by omega)])) ?_
    refine o_step rfl (s_pick_f rfl rfl) ?_
    refine o_step rfl (s_move rfl) ?_
    refine o_no rfl rfl rfl rfl ?_
    refine o_no rfl rfl rfl rfl ?_
    refine o_no rfl rfl rfl rfl ?_
    refine o_noU rfl rfl rfl ?_
    refine o_noU rfl rfl rfl ?_
    refine o_noU rfl rfl rfl ?_
    refine o_no rfl rfl rfl rfl ?_
    refine o_step rfl (s_pick_t rfl rfl) ?_
    refine o_nil ?_
    refine x_then (hK10 _ _ ?_)
    refine c_true rfl ?_
    refine c_exit ?_
    refine x_then_exit ?_
    refine x_block_exit ?_
    refine x_then (hK8 _ _ ?_)
    refine c_region ?_
    refine o_step rfl (s_move rfl) ?_
    refine o_step rfl (s_add rfl rfl (by omega)) ?_
    refine o_step rfl (s_assign rfl) ?_
    refine o_nil ?_
    exact x_then (x_inv (i + 1, ds, Z) ⟨by dsimp only; omega, chs_no hxi hds (.inl (by omega)), by dsimp only; omega, hZ⟩ (by first | omega | (dsimp only; omega)) sbA hzB)
   ·
    refine o_step rfl (step_cast (v' := .bool false) (s_lss rfl rfl) (by rw [decide_eq_false (by omega)])) ?_
    refine o_step rfl (s_pick_f rfl rfl) ?_
    refine o_step rfl (s_move rfl) ?_
    refine o_yes rfl rfl ?_
    refine o_step rfl (s_move rfl) ?_
    refine o_yes rfl rfl ?_
    by_cases hn0 : (ds.length : Int) > 0
    ·
     refine o_step rfl (step_cast (v' := .bool true) (s_gtr rfl rfl) (by rw [decide_eq_true (by omega)])) ?_
     refine o_yes rfl rfl ?_
     refine o_step rfl (s_move rfl) ?_
     refine o_yes rfl rfl ?_
     refine o_step rfl (s_field rfl rfl (by decide)) ?_
     refine o_yes rfl rfl ?_
     by_cases hall : all = true
     ·
      refine o_step rfl (step_cast (v' := .bool true) (s_ld rfl (.own meA rfl)) (by rw [hall])) ?_
      refine o_yes rfl rfl ?_
      refine o_step rfl (s_not rfl) ?_
      refine o_yes rfl rfl ?_
      refine o_step rfl (s_pick_t rfl rfl) ?_
      refine o_step rfl (s_pick_f rfl rfl) ?_
      refine o_nil ?_
      refine x_then (hK10 _ _ ?_)
      refine c_false rfl ?_
      refine c_skip ?_
      refine x_then (hK9 _ _ ?_)
      refine c_seq fun _ hK11 => ?_
      refine c_region ?_
      refine o_step rfl (s_move rfl) ?_
      refine o_step rfl (step_cast (v' := .int .i64 ((ds ++ [s.xs]).length : Nat)) (s_add rfl rfl (by omega)) (by simp)) ?_
      refine o_step rfl (s_assign rfl) ?_
      refine o_nil ?_
      refine x_then (hK11 _ _ ?_)
      refine c_drawE ([(b3, .cells [.slice fa ps.length fc, .slice xa w.length xc, .int .i64 first, .bool all, .int .i64 most].toArray 41 (0, 0))]) (fun i => false) ?_
      refine e_tk 0 rfl hzB (s_move rfl) ?_
      refine e_tk 1 rfl hzB (s_move rfl) ?_
      refine e_tk 2 rfl hzB (s_move rfl) ?_
      refine e_tk 3 rfl hzB (s_idx rfl rfl hs1 (by omega)) ?_
      refine e_tk 4 rfl hzB (s_ld rfl ((RdK.old0 h1).ld i 0 hs rfl (by decide) (by omega))) ?_
      refine e_tk 5 rfl hzB (s_idx rfl rfl hss (by omega)) ?_
      refine e_tk 6 rfl hzB (s_field rfl rfl (by decide)) ?_
      refine e_tk 7 rfl hzB (s_ld rfl ((RdK.old0 hsr).ld 0 1 hg.hd rfl (by decide) (by simp only [soff, Sl.v]; rfl))) ?_
      refine e_tk 8 rfl hzB (s_move rfl) ?_
      refine e_tk 9 rfl hzB (s_move rfl) ?_
      refine e_tk 10 rfl hzB (s_idx rfl rfl hs1 (by omega)) ?_
      refine e_tk 11 rfl hzB (s_ld rfl ((RdK.old0 h1).ld i 0 hs rfl (by decide) (by omega))) ?_
      refine e_tk 12 rfl hzB (s_idx rfl rfl hss (by omega)) ?_
      refine e_tk 13 rfl hzB (s_field rfl rfl (by decide)) ?_
      refine e_tk 14 rfl hzB (s_ld rfl ((RdK.old0 hsr).ld 0 0 hg.hd rfl (by decide) (by simp only [soff, Sl.v]; rfl))) ?_
      refine e_tk 15 rfl hzB (step_cast (v' := .int .i64 ((q2 : Int) - p2)) (s_sub rfl rfl (by show -9223372036854775808 ≤ (q2 : Int) - p2 ∧ (q2 : Int) - p2 ≤ 9223372036854775807; omega)) rfl) ?_
      refine e_tk 16 rfl hzB (s_sub rfl rfl (by omega)) ?_
      refine e_tk 17 rfl hzB (s_field rfl rfl (by decide)) ?_
      refine e_tk 18 rfl hzB (s_ld rfl (.own meA rfl)) ?_
      refine e_tk 20 rfl hzB (s_move rfl) ?_
      refine e_tk 21 rfl hzB (s_move rfl) ?_
      refine e_tk 22 rfl hzB (s_idx rfl rfl hs1 (by omega)) ?_
      refine e_tk 23 rfl hzB (s_ld rfl ((RdK.old0 h1).ld i 0 hs rfl (by decide) (by omega))) ?_
      refine e_one 19 rfl (by kernel_rfl) ?_
      refine o_call (copyPieces_fn fa fc ps hpl) rfl rfl rfl (by exact .nil) (fun _ st => ⟨(RdK.old0 h2).out _ st, fun p hp => (RdK.old0 (h2t p hp)).out _ st⟩) (fun v61 S61 ⟨a61, c61, qs, Sh61, Sc61, hv61, hS61, hO61, hqa, hqr⟩ => ?_)
      subst hv61
      subst hS61
      refine o_nil ?_
      refine x_oneS hzB ?_
      refine e_one 24 rfl (by kernel_rfl) ?_
      refine o_call (copySpans_fn s.a s.c s.xs hll) rfl rfl rfl (by exact .nil) (fun _ st => (RdK.old0 hsr).out _ st) (fun v66 S66 ⟨a66, c66, hv66, hO66⟩ => ?_)
      subst hv66
      refine o_nil ?_
      refine x_oneS hzB ?_
      refine e_one 25 rfl (by kernel_rfl) ?_
      refine o_callP (fLong_fn a61 c61 qs a66 c66 s.xs w.length hwl hg.all (fun q hq => by have := (hqr q hq); exact ab_le hqa hpb q hq)) rfl rfl rfl (fun _ st => ⟨(hO61.rdk hiA).out _ st, (hO66.rdk hiA).out _ st⟩) (fun v67 hv67 => ?_)
      rw [hqa] at hv67
      subst hv67
      refine o_nil ?_
      refine x_oneS hzB ?_
      refine e_one 26 rfl (by kernel_rfl) ?_
      refine o_step rfl (s_add rfl rfl (by omega)) ?_
      refine o_nil ?_
      refine x_oneS hzB ?_
      refine e_one 27 rfl (by kernel_rfl) ?_
      refine o_step rfl (s_min rfl rfl) ?_
      refine o_nil ?_
      refine x_oneS hzB ?_
      refine e_one 28 rfl (by kernel_rfl) ?_
      refine o_step rfl (s_assign rfl) ?_
      refine o_nil ?_
      refine x_oneS hzB ?_
      refine e_done (by kernel_rfl) ?_
      refine x_block ?_
      refine x_then (hK8 _ _ ?_)
      refine c_region ?_
      refine o_step rfl (s_move rfl) ?_
      refine o_step rfl (s_add rfl rfl (by omega)) ?_
      refine o_step rfl (s_assign rfl) ?_
      refine o_nil ?_
      exact x_then (x_inv (i + 1, ds ++ [s.xs], _) ⟨by dsimp only; omega, chs_yes hxi hds (by rintro (h | ⟨h, _⟩); omega; rw [hall] at h; cases h), by simp; omega, hZ.step hg hwl⟩ (by first | omega | (dsimp only; omega)) sbA hzB)
     ·
      replace hall : all = false := by simpa using hall
      refine o_step rfl (step_cast (v' := .bool false) (s_ld rfl (.own meA rfl)) (by rw [hall])) ?_
      refine o_yes rfl rfl ?_
      refine o_step rfl (s_not rfl) ?_
      refine o_yes rfl rfl ?_
      refine o_step rfl (s_pick_t rfl rfl) ?_
      refine o_step rfl (s_pick_f rfl rfl) ?_
      refine o_nil ?_
      refine x_then (hK10 _ _ ?_)
      refine c_true rfl ?_
      refine c_exit ?_
      refine x_then_exit ?_
      refine x_block_exit ?_
      refine x_then (hK8 _ _ ?_)
      refine c_region ?_
      refine o_step rfl (s_move rfl) ?_
      refine o_step rfl (s_add rfl rfl (by omega)) ?_
      refine o_step rfl (s_assign rfl) ?_
      refine o_nil ?_
      exact x_then (x_inv (i + 1, ds, Z) ⟨by dsimp only; omega, chs_no hxi hds (.inr ⟨hall, List.ne_nil_of_length_pos (by dsimp only; omega)⟩), by dsimp only; omega, hZ⟩ (by first | omega | (dsimp only; omega)) sbA hzB)
    ·
     refine o_step rfl (step_cast (v' := .bool false) (s_gtr rfl rfl) (by rw [decide_eq_false (by omega)])) ?_
     refine o_yes rfl rfl ?_
     refine o_step rfl (s_move rfl) ?_
     refine o_no rfl rfl rfl rfl ?_
     refine o_no rfl rfl rfl rfl ?_
     refine o_no rfl rfl rfl rfl ?_
     refine o_yes rfl rfl ?_
     refine o_step rfl (s_pick_f rfl rfl) ?_
     refine o_step rfl (s_pick_f rfl rfl) ?_
     refine o_nil ?_
     refine x_then (hK10 _ _ ?_)
     refine c_false rfl ?_
     refine c_skip ?_
     refine x_then (hK9 _ _ ?_)
     refine c_seq fun _ hK12 => ?_
     refine c_region ?_
     refine o_step rfl (s_move rfl) ?_
     refine o_step rfl (step_cast (v' := .int .i64 ((ds ++ [s.xs]).length : Nat)) (s_add rfl rfl (by omega)) (by simp)) ?_
     refine o_step rfl (s_assign rfl) ?_
     refine o_nil ?_
     refine x_then (hK12 _ _ ?_)
     refine c_drawE ([(b3, .cells [.slice fa ps.length fc, .slice xa w.length xc, .int .i64 first, .bool all, .int .i64 most].toArray 41 (0, 0))]) (fun i => false) ?_
     refine e_tk 0 rfl hzB (s_move rfl) ?_
     refine e_tk 1 rfl hzB (s_move rfl) ?_
     refine e_tk 2 rfl hzB (s_move rfl) ?_
     refine e_tk 3 rfl hzB (s_idx rfl rfl hs1 (by omega)) ?_
     refine e_tk 4 rfl hzB (s_ld rfl ((RdK.old0 h1).ld i 0 hs rfl (by decide) (by omega))) ?_
     refine e_tk 5 rfl hzB (s_idx rfl rfl hss (by omega)) ?_
     refine e_tk 6 rfl hzB (s_field rfl rfl (by decide)) ?_
     refine e_tk 7 rfl hzB (s_ld rfl ((RdK.old0 hsr).ld 0 1 hg.hd rfl (by decide) (by simp only [soff, Sl.v]; rfl))) ?_
     refine e_tk 8 rfl hzB (s_move rfl) ?_
     refine e_tk 9 rfl hzB (s_move rfl) ?_
     refine e_tk 10 rfl hzB (s_idx rfl rfl hs1 (by omega)) ?_
     refine e_tk 11 rfl hzB (s_ld rfl ((RdK.old0 h1).ld i 0 hs rfl (by decide) (by omega))) ?_
     refine e_tk 12 rfl hzB (s_idx rfl rfl hss (by omega)) ?_
     refine e_tk 13 rfl hzB (s_field rfl rfl (by decide)) ?_
     refine e_tk 14 rfl hzB (s_ld rfl ((RdK.old0 hsr).ld 0 0 hg.hd rfl (by decide) (by simp only [soff, Sl.v]; rfl))) ?_
     refine e_tk 15 rfl hzB (step_cast (v' := .int .i64 ((q2 : Int) - p2)) (s_sub rfl rfl (by show -9223372036854775808 ≤ (q2 : Int) - p2 ∧ (q2 : Int) - p2 ≤ 9223372036854775807; omega)) rfl) ?_
     refine e_tk 16 rfl hzB (s_sub rfl rfl (by omega)) ?_
     refine e_tk 17 rfl hzB (s_field rfl rfl (by decide)) ?_
     refine e_tk 18 rfl hzB (s_ld rfl (.own meA rfl)) ?_
     refine e_tk 20 rfl hzB (s_move rfl) ?_
     refine e_tk 21 rfl hzB (s_move rfl) ?_
     refine e_tk 22 rfl hzB (s_idx rfl rfl hs1 (by omega)) ?_
     refine e_tk 23 rfl hzB (s_ld rfl ((RdK.old0 h1).ld i 0 hs rfl (by decide) (by omega))) ?_
     refine e_one 19 rfl (by kernel_rfl) ?_
     refine o_call (copyPieces_fn fa fc ps hpl) rfl rfl rfl (by exact .nil) (fun _ st => ⟨(RdK.old0 h2).out _ st, fun p hp => (RdK.old0 (h2t p hp)).out _ st⟩) (fun v61 S61 ⟨a61, c61, qs, Sh61, Sc61, hv61, hS61, hO61, hqa, hqr⟩ => ?_)
     subst hv61
     subst hS61
     refine o_nil ?_
     refine x_oneS hzB ?_
     refine e_one 24 rfl (by kernel_rfl) ?_
     refine o_call (copySpans_fn s.a s.c s.xs hll) rfl rfl rfl (by exact .nil) (fun _ st => (RdK.old0 hsr).out _ st) (fun v66 S66 ⟨a66, c66, hv66, hO66⟩ => ?_)
     subst hv66
     refine o_nil ?_
     refine x_oneS hzB ?_
     refine e_one 25 rfl (by kernel_rfl) ?_
     refine o_callP (fLong_fn a61 c61 qs a66 c66 s.xs w.length hwl hg.all (fun q hq => by have := (hqr q hq); exact ab_le hqa hpb q hq)) rfl rfl rfl (fun _ st => ⟨(hO61.rdk hiA).out _ st, (hO66.rdk hiA).out _ st⟩) (fun v67 hv67 => ?_)
     rw [hqa] at hv67
     subst hv67
     refine o_nil ?_
     refine x_oneS hzB ?_
     refine e_one 26 rfl (by kernel_rfl) ?_
     refine o_step rfl (s_add rfl rfl (by omega)) ?_
     refine o_nil ?_
     refine x_oneS hzB ?_
     refine e_one 27 rfl (by kernel_rfl) ?_
     refine o_step rfl (s_min rfl rfl) ?_
     refine o_nil ?_
     refine x_oneS hzB ?_
     refine e_one 28 rfl (by kernel_rfl) ?_
     refine o_step rfl (s_assign rfl) ?_
     refine o_nil ?_
     refine x_oneS hzB ?_
     refine e_done (by kernel_rfl) ?_
     refine x_block ?_
     refine x_then (hK8 _ _ ?_)
     refine c_region ?_
     refine o_step rfl (s_move rfl) ?_
     refine o_step rfl (s_add rfl rfl (by omega)) ?_
     refine o_step rfl (s_assign rfl) ?_
     refine o_nil ?_
     exact x_then (x_inv (i + 1, ds ++ [s.xs], _) ⟨by dsimp only; omega, chs_yes hxi hds (by rintro (h | ⟨_, h⟩); omega; exact h (List.eq_nil_of_length_eq_zero (by omega))), by simp; omega, hZ.step hg hwl⟩ (by first | omega | (dsimp only; omega)) sbA hzB)
  ·
   obtain rfl : i = xs.length := by rw [← hxs, List.length_map]; omega
   rw [List.take_length] at hds
   refine c_exit ?_
   refine x_then_exit ?_
   refine x_then_exit ?_
   refine x_block_exit ?_
   refine x_then (hK4 _ _ ?_)
   refine c_seq fun _ hK13 => ?_
   refine c_region ?_
   refine o_step rfl (s_move rfl) ?_
   refine o_step rfl (s_assign rfl) ?_
   refine o_nil ?_
   refine x_then (hK13 _ _ ?_)
   refine c_ret ?_
   refine ?_
   exact x_ret rfl (.tmp rfl (.nil)) (⟨Z, rfl, fun hz => by rw [← hds]; exact hZ.fin (hds ▸ hcg.chs first all) hwl hz⟩)
end Go.Proofs.Ytmpeokbongnniaa

/- Part of the proofs over this seat: see the text that holds the theorem. Conditions: each theorem bears its own. -/
namespace Go.Proofs.Ytmpeokbongnniaa
open Go Go.HL Go.Proofs Go.HL.Kl Go.HL.Kl.Mc Go.HL.Kl.Mc.AskE
theorem ownl_rdm {E : Sp → List Value} {k T : Nat} {sls : List (Sl Sp)} {xs : List (List Sp)} {S : Hp} (h : OwnL E k T sls xs S) (hx : sls.map Sl.xs = xs) : ∀ s ∈ sls, RdS E s.v s.xs S := by
  induction h with
  | nil => intro s hs; cases hs
  | @cons s ys sls xss S R h hs ih =>
    simp only [List.map_cons, List.cons.injEq] at hx
    obtain ⟨rfl, hx⟩ := hx
    intro t ht
    rcases List.mem_cons.1 ht with rfl | ht
    · exact h.rds.mono HIn.appL
    · exact (ih hx t ht).mono HIn.appR
set_option maxHeartbeats 2000000 in
theorem changeMost_fn (ra : Option Addr) (rc : Nat) (re : List Nd) (hre : ∀ x ∈ re, -128 ≤ x.op ∧ x.op < 128) (fa : Option Addr) (fc : Nat) (ps : List Pc) (xa : Option Addr) (xc : Nat) (w : List UInt8) (first : Int) (all : Bool) (most : Int) (hf1 : -9223372036854775808 ≤ first ∧ first ≤ 9223372036854775807) : HL.Fn Try.prog 4 [.slice ra re.length rc, .agg #[.slice fa ps.length fc, .slice xa w.length xc, .int .i64 first, .bool all, .int .i64 most]] (fun W => Rd En W (.slice ra re.length rc) re ∧ ((Rd Epc W (.slice fa ps.length fc) ps ∧ ∀ p ∈ ps, Rd Eb W p.t.v p.t.xs) ∧ Rd Eb W (.slice xa w.length xc) w)) [] (fun v _ => v = .bool true) := by
  refine fn_of Try.func4 rfl rfl rfl fun w0 hw => ?_
  obtain ⟨h1, ⟨h2, h2t⟩, h3⟩ := hw
  have hbw := h3.sl.le
  refine c_seq fun _ hK1 => ?_
  refine c_region ?_
  refine o_box rfl rfl rfl fun b3 => ?_
  refine o_step rfl (s_assign rfl) ?_
  refine o_nil ?_
  refine x_then (hK1 _ _ ?_)
  refine c_seq fun _ hK2 => ?_
  refine c_region ?_
  refine o_step rfl (s_move rfl) ?_
  refine o_step rfl (s_field rfl rfl (by decide)) ?_
  refine o_step rfl (s_ld rfl (.own meA rfl)) ?_
  refine o_step rfl (s_len rfl) ?_
  refine o_call (made_fn ra rc re hre w.length (by omega)) rfl rfl rfl (by exact .nil) (fun _ st => (RdK.old0 h1).out _ st) (fun v21 S21 h21 => ?_)
  rcases h21 with hv21 | ⟨bR, hv21, hP, hn4⟩
  ·
   subst hv21
   refine o_step rfl (s_move rfl) ?_
   refine o_step rfl (s_extract rfl rfl) ?_
   refine o_step rfl (s_extract rfl rfl) ?_
   refine o_step rfl (s_assign rfl) ?_
   refine o_step rfl (s_assign rfl) ?_
   refine o_nil ?_
   refine x_then (hK2 _ _ ?_)
   refine c_seq fun _ hK3 => ?_
   refine c_seq fun _ hK4 => ?_
   refine c_region ?_
   refine o_step rfl (s_move rfl) ?_
   refine o_step rfl (s_not rfl) ?_
   refine o_step rfl (s_move rfl) ?_
   refine o_no rfl rfl rfl rfl ?_
   refine o_no rfl rfl rfl rfl ?_
   refine o_step rfl (s_pick_t rfl rfl) ?_
   refine o_nil ?_
   refine x_then (hK4 _ _ ?_)
   refine c_true rfl ?_
   refine c_seq fun _ hK5 => ?_
   refine c_region ?_
   refine o_callP (works_fn) rfl rfl rfl (fun _ _ => trivial) (fun v30 hv30 => ?_)
   subst hv30
   refine o_step rfl (s_assign rfl) ?_
   refine o_nil ?_
   refine x_then (hK5 _ _ ?_)
   refine c_ret ?_
   refine x_then_ret (?_)
   exact x_ret rfl (.tmp rfl (.nil)) (rfl)
  ·
   subst hv21
   obtain ⟨x, ks, a1, am, c1, Sr, Sm, hsb, hrf, hSh, rfl, hOr, hOm⟩ := hP
   have hMay : May re w x ks := ⟨hsb, hrf, hSh⟩
   have hwl : w.length ≤ 1000000 := by omega
   obtain ⟨xs, hX⟩ := MtR.ex hMay _ 0 (-1) (Nat.le_refl _)
   have hCh := hX.ch
   have hcg := hCh.g
   refine o_step rfl (s_move rfl) ?_
   refine o_step rfl (s_extract rfl rfl) ?_
   refine o_step rfl (s_extract rfl rfl) ?_
   refine o_step rfl (s_assign rfl) ?_
   refine o_step rfl (s_assign rfl) ?_
   refine o_nil ?_
   refine x_then (hK2 _ _ ?_)
   refine c_seq fun _ hK6 => ?_
   refine c_seq fun _ hK7 => ?_
   refine c_region ?_
   refine o_step rfl (s_move rfl) ?_
   refine o_step rfl (s_not rfl) ?_
   refine o_step rfl (s_move rfl) ?_
   refine o_yes rfl rfl ?_
   refine o_step rfl (s_ldB rfl (RdPK.cels (.own meA)) lnA) ?_
   refine o_yes rfl rfl ?_
   refine o_callP (far_fn fa fc ps xa xc w first all most) rfl rfl rfl (fun _ st => ⟨⟨(RdK.old0 h2).out _ st, fun p hp => (RdK.old0 (h2t p hp)).out _ st⟩, (RdK.old0 h3).out _ st⟩) (fun v28 hv28 => ?_)
   obtain ⟨b, rfl, hpl⟩ := hv28
   cases b
   ·
    replace hpl := hpl rfl
    refine o_step rfl (s_pick_f rfl rfl) ?_
    refine o_nil ?_
    refine x_then (hK7 _ _ ?_)
    refine c_false rfl ?_
    refine c_skip ?_
    refine x_then (hK6 _ _ ?_)
    refine c_seq fun _ hK8 => ?_
    refine c_seq fun _ hK9 => ?_
    refine c_drawE ([(b3, .cells [.slice fa ps.length fc, .slice xa w.length xc, .int .i64 first, .bool all, .int .i64 most].toArray 41 (0, 0))]) (fun i => false) ?_
    refine e_tk 0 rfl hzB (s_move rfl) ?_
    refine e_tk 1 rfl hzB (s_field rfl rfl (by decide)) ?_
    refine e_tk 2 rfl hzB (s_ld rfl (.own meA rfl)) ?_
    refine e_tk 5 rfl hzB (s_ldB rfl (RdPK.cels (.own meA)) lnA) ?_
    refine e_one 3 rfl (by kernel_rfl) ?_
    refine o_call (copy_fn xa xc w) rfl rfl rfl (by exact .nil) (fun _ st => (RdK.old0 h3).out _ st) (fun v34 S34 ⟨a34, c34, hv34, hO34⟩ => ?_)
    subst hv34
    refine o_nil ?_
    refine x_oneS hzB ?_
    refine e_one 4 rfl (by kernel_rfl) ?_
    refine o_call (spansR_fn w hwl (pt bR) HSR (stpR re w) (RxA bR a1 c1 re x ks am) stpR_det (rxFind hre hwl hMay) rxPre rfl a34 c34 () [] rfl xs hX) rfl rfl rfl (by exact .nil) (fun _ st => ⟨⟨(RdPK.own meA).out _ st, List.not_mem_nil, (hOr.rdk hiA).out _ st, Apart.nil, (hOm.rdk hiA).out _ st, Apart.nil⟩, (hO34.rdk hiA).out _ st, Apart.nil⟩) (fun v35 S35 ⟨a35, c35, sls, Sh, Sc, s35, T35, hv35, hS35, hO35, hx35, hL35, hs35⟩ => ?_)
    subst hv35
    obtain rfl : T35 = [] := hs35
    subst hS35
    have hslb := hO35.sl.le
    have hrm := ownl_rdm hL35 hx35
    refine o_nil ?_
    refine x_oneS hzB ?_
    refine e_one 6 rfl (by kernel_rfl) ?_
    refine o_callP (sized_fn a35 c35 sls xs hx35 fa fc ps xa xc w first all most hwl (by omega) hcg hf1) rfl rfl rfl (fun _ st => ⟨⟨(hO35.rdk hiA).out _ st, fun s hs => ((hrm s hs).rdk hiA).out _ st⟩, ⟨(RdK.old0 h2).out _ st, fun p hp => (RdK.old0 (h2t p hp)).out _ st⟩, (RdK.old0 h3).out _ st⟩) (fun v37 hv37 => ?_)
    obtain ⟨Z, rfl, hZ⟩ := hv37
    refine o_nil ?_
    refine x_oneS hzB ?_
    refine e_one 7 rfl (by kernel_rfl) ?_
    refine o_step rfl (s_gtr rfl rfl) ?_
    refine o_nil ?_
    refine x_oneS hzB ?_
    refine e_done (by kernel_rfl) ?_
    refine x_then (hK9 _ _ ?_)
    refine c_if rfl (fun hbig => ?_) (fun hbig => ?_)
    ·
     refine c_seq fun _ hK10 => ?_
     refine c_region ?_
     refine o_callP (works_fn) rfl rfl rfl (fun _ _ => trivial) (fun v39 hv39 => ?_)
     subst hv39
     refine o_step rfl (s_assign rfl) ?_
     refine o_nil ?_
     refine x_then (hK10 _ _ ?_)
     refine c_ret ?_
     refine x_then_ret (?_)
     exact x_ret rfl (.tmp rfl (.nil)) (rfl)
    ·
     have htot := hZ (by omega)
     refine c_skip ?_
     refine x_then (hK8 _ _ ?_)
     refine c_seq fun _ hK11 => ?_
     refine c_drawE ([(b3, .cells [.slice fa ps.length fc, .slice xa w.length xc, .int .i64 first, .bool all, .int .i64 most].toArray 41 (0, 0))]) (fun i => false) ?_
     refine e_tk 0 rfl hzB (s_move rfl) ?_
     refine e_tk 1 rfl hzB (s_field rfl rfl (by decide)) ?_
     refine e_tk 2 rfl hzB (s_ld rfl (.own meA rfl)) ?_
     refine e_tk 4 rfl hzB (s_field rfl rfl (by decide)) ?_
     refine e_tk 5 rfl hzB (s_ld rfl (.own meA rfl)) ?_
     refine e_tk 7 rfl hzB (s_field rfl rfl (by decide)) ?_
     refine e_tk 8 rfl hzB (s_ld rfl (.own meA rfl)) ?_
     refine e_tk 9 rfl hzB (s_field rfl rfl (by decide)) ?_
     refine e_tk 10 rfl hzB (s_ld rfl (.own meA rfl)) ?_
     refine e_one 3 rfl (by kernel_rfl) ?_
     refine o_call (copyPieces_fn fa fc ps (by omega)) rfl rfl rfl (by exact .nil) (fun _ st => ⟨(RdK.old0 h2).out _ st, fun p hp => (RdK.old0 (h2t p hp)).out _ st⟩) (fun v44 S44 ⟨a44, c44, qs44, Sh44, Sc44, hv44, hS44, hO44, hqa44, hqr44⟩ => ?_)
     subst hv44
     subst hS44
     refine o_nil ?_
     refine x_oneS hzB ?_
     refine e_one 6 rfl (by kernel_rfl) ?_
     refine o_call (copy_fn xa xc w) rfl rfl rfl (by exact .nil) (fun _ st => (RdK.old0 h3).out _ st) (fun v47 S47 ⟨a47, c47, hv47, hO47⟩ => ?_)
     subst hv47
     refine o_nil ?_
     refine x_oneS hzB ?_
     refine e_one 11 rfl (by kernel_rfl) ?_
     refine o_call (doR_fn w hwl (pt bR) HSR (stpR re w) (RxA bR a1 c1 re x ks am) stpR_det (rxFind hre hwl hMay) rxPre rfl a47 c47 () [] rfl xs hX a44 c44 qs44 first all 1099511627776 hf1 (by rw [hqa44]; omega)) rfl rfl rfl (by exact .nil) (fun _ st => ⟨⟨(RdPK.own meA).out _ st, List.not_mem_nil, (hOr.rdk hiA).out _ st, Apart.nil, (hOm.rdk hiA).out _ st, Apart.nil⟩, ⟨(hO47.rdk hiA).out _ st, Apart.nil⟩, ⟨(hO44.rdk hiA).out _ st, Apart.nil⟩, fun p hp => ⟨((hqr44 p hp).rdk hiA).out _ st, Apart.nil⟩⟩) (fun v52 S52 ⟨s52, T52, hs52, hc52⟩ => ?_)
     rw [hqa44] at hc52
     obtain ⟨_, a52, c52, So52, hv52, hSo52, hS52⟩ := hc52.resolve_left (fun h => absurd h.1 (by omega))
     obtain rfl : T52 = [] := hs52
     subst hv52
     subst hS52
     refine o_nil ?_
     refine x_oneS hzB ?_
     refine e_pr 12 rfl (s_move rfl) ?_
     refine e_pr 13 rfl (s_extract rfl rfl) ?_
     refine e_pr 14 rfl (s_extract rfl rfl) ?_
     refine e_pr 15 rfl (s_extract rfl rfl) ?_
     refine e_pr 16 rfl (s_assign rfl) ?_
     refine e_pr 17 rfl (s_assign rfl) ?_
     refine e_pr 18 rfl (s_assign rfl) ?_
     refine e_done (by kernel_rfl) ?_
     refine x_then (hK11 _ _ ?_)
     refine c_seq fun _ hK12 => ?_
     refine c_drawE ([(b3, .cells [.slice fa ps.length fc, .slice xa w.length xc, .int .i64 first, .bool all, .int .i64 most].toArray 41 (0, 0))]) (fun i => false) ?_
     refine e_tk 0 rfl hzB (s_move rfl) ?_
     refine e_tk 1 rfl hzB (s_field rfl rfl (by decide)) ?_
     refine e_tk 2 rfl hzB (s_ld rfl (.own meA rfl)) ?_
     refine e_tk 4 rfl hzB (s_field rfl rfl (by decide)) ?_
     refine e_tk 5 rfl hzB (s_ld rfl (.own meA rfl)) ?_
     refine e_tk 7 rfl hzB (s_field rfl rfl (by decide)) ?_
     refine e_tk 8 rfl hzB (s_ld rfl (.own meA rfl)) ?_
     refine e_tk 9 rfl hzB (s_field rfl rfl (by decide)) ?_
     refine e_tk 10 rfl hzB (s_ld rfl (.own meA rfl)) ?_
     refine e_tk 11 rfl hzB (s_move rfl) ?_
     refine e_tk 12 rfl hzB (s_len rfl) ?_
     refine e_one 3 rfl (by kernel_rfl) ?_
     refine o_call (copyPieces_fn fa fc ps (by omega)) rfl rfl rfl (by exact .nil) (fun _ st => ⟨(RdK.old0 h2).out _ st, fun p hp => (RdK.old0 (h2t p hp)).out _ st⟩) (fun v60 S60 ⟨a60, c60, qs60, Sh60, Sc60, hv60, hS60, hO60, hqa60, hqr60⟩ => ?_)
     subst hv60
     subst hS60
     refine o_nil ?_
     refine x_oneS hzB ?_
     refine e_one 6 rfl (by kernel_rfl) ?_
     refine o_call (copy_fn xa xc w) rfl rfl rfl (by exact .nil) (fun _ st => (RdK.old0 h3).out _ st) (fun v63 S63 ⟨a63, c63, hv63, hO63⟩ => ?_)
     subst hv63
     refine o_nil ?_
     refine x_oneS hzB ?_
     refine e_one 13 rfl (by kernel_rfl) ?_
     refine o_call (doR_fn w hwl (pt bR) HSR (stpR re w) (RxA bR a1 c1 re x ks am) stpR_det (rxFind hre hwl hMay) rxPre rfl a63 c63 () [] rfl xs hX a60 c60 qs60 first all ((doF w (ps.map Pc.abs) 0 (chs first all xs)).length : Int) hf1 (by rw [hqa60]; omega)) rfl rfl rfl (by exact .nil) (fun _ st => ⟨⟨(RdPK.own meA).out _ st, List.not_mem_nil, (hOr.rdk hiA).out _ st, Apart.nil, (hOm.rdk hiA).out _ st, Apart.nil⟩, ⟨(hO63.rdk hiA).out _ st, Apart.nil⟩, ⟨(hO60.rdk hiA).out _ st, Apart.nil⟩, fun p hp => ⟨((hqr60 p hp).rdk hiA).out _ st, Apart.nil⟩⟩) (fun v70 S70 ⟨s70, T70, hs70, hc70⟩ => ?_)
     rw [hqa60] at hc70
     obtain ⟨_, a70, c70, So70, hv70, hSo70, hS70⟩ := hc70.resolve_left (fun h => absurd h.1 (by omega))
     obtain rfl : T70 = [] := hs70
     subst hv70
     subst hS70
     refine o_nil ?_
     refine x_oneS hzB ?_
     refine e_pr 14 rfl (s_move rfl) ?_
     refine e_pr 15 rfl (s_extract rfl rfl) ?_
     refine e_pr 16 rfl (s_extract rfl rfl) ?_
     refine e_pr 17 rfl (s_extract rfl rfl) ?_
     refine e_pr 18 rfl (s_assign rfl) ?_
     refine e_pr 19 rfl (s_assign rfl) ?_
     refine e_pr 20 rfl (s_assign rfl) ?_
     refine e_done (by kernel_rfl) ?_
     refine x_then (hK12 _ _ ?_)
     refine c_seq fun _ hK13 => ?_
     refine c_drawE ([(b3, .cells [.slice fa ps.length fc, .slice xa w.length xc, .int .i64 first, .bool all, .int .i64 most].toArray 41 (0, 0))]) (fun i => false) ?_
     refine e_tk 0 rfl hzB (s_move rfl) ?_
     refine e_tk 1 rfl hzB (s_field rfl rfl (by decide)) ?_
     refine e_tk 2 rfl hzB (s_ld rfl (.own meA rfl)) ?_
     refine e_tk 4 rfl hzB (s_field rfl rfl (by decide)) ?_
     refine e_tk 5 rfl hzB (s_ld rfl (.own meA rfl)) ?_
     refine e_tk 7 rfl hzB (s_field rfl rfl (by decide)) ?_
     refine e_tk 8 rfl hzB (s_ld rfl (.own meA rfl)) ?_
     refine e_tk 9 rfl hzB (s_field rfl rfl (by decide)) ?_
     refine e_tk 10 rfl hzB (s_ld rfl (.own meA rfl)) ?_
     refine e_tk 11 rfl hzB (s_move rfl) ?_
     refine e_tk 12 rfl hzB (s_len rfl) ?_
     refine e_tk 13 rfl hzB (s_sub rfl rfl (by omega)) ?_
     refine e_one 3 rfl (by kernel_rfl) ?_
     refine o_call (copyPieces_fn fa fc ps (by omega)) rfl rfl rfl (by exact .nil) (fun _ st => ⟨(RdK.old0 h2).out _ st, fun p hp => (RdK.old0 (h2t p hp)).out _ st⟩) (fun v78 S78 ⟨a78, c78, qs78, Sh78, Sc78, hv78, hS78, hO78, hqa78, hqr78⟩ => ?_)
     subst hv78
     subst hS78
     refine o_nil ?_
     refine x_oneS hzB ?_
     refine e_one 6 rfl (by kernel_rfl) ?_
     refine o_call (copy_fn xa xc w) rfl rfl rfl (by exact .nil) (fun _ st => (RdK.old0 h3).out _ st) (fun v81 S81 ⟨a81, c81, hv81, hO81⟩ => ?_)
     subst hv81
     refine o_nil ?_
     refine x_oneS hzB ?_
     refine e_one 14 rfl (by kernel_rfl) ?_
     refine o_call (doR_fn w hwl (pt bR) HSR (stpR re w) (RxA bR a1 c1 re x ks am) stpR_det (rxFind hre hwl hMay) rxPre rfl a81 c81 () [] rfl xs hX a78 c78 qs78 first all (((doF w (ps.map Pc.abs) 0 (chs first all xs)).length : Int) - 1) hf1 (by rw [hqa78]; omega)) rfl rfl rfl (by exact .nil) (fun _ st => ⟨⟨(RdPK.own meA).out _ st, List.not_mem_nil, (hOr.rdk hiA).out _ st, Apart.nil, (hOm.rdk hiA).out _ st, Apart.nil⟩, ⟨(hO81.rdk hiA).out _ st, Apart.nil⟩, ⟨(hO78.rdk hiA).out _ st, Apart.nil⟩, fun p hp => ⟨((hqr78 p hp).rdk hiA).out _ st, Apart.nil⟩⟩) (fun v89 S89 ⟨s89, T89, hs89, hc89⟩ => ?_)
     rw [hqa78] at hc89
     obtain ⟨_, hv89, hS89⟩ := hc89.resolve_right (fun h => absurd h.1 (by omega))
     obtain rfl : T89 = [] := hs89
     subst hv89
     subst hS89
     refine o_nil ?_
     refine x_oneS hzB ?_
     refine e_pr 15 rfl (s_move rfl) ?_
     refine e_pr 16 rfl (s_extract rfl rfl) ?_
     refine e_pr 17 rfl (s_extract rfl rfl) ?_
     refine e_pr 18 rfl (s_extract rfl rfl) ?_
     refine e_pr 19 rfl (s_assign rfl) ?_
     refine e_pr 20 rfl (s_assign rfl) ?_
     refine e_pr 21 rfl (s_assign rfl) ?_
     refine e_done (by kernel_rfl) ?_
     refine x_then (hK13 _ _ ?_)
     refine c_seq fun _ hK14 => ?_
     refine c_seq fun _ hK15 => ?_
     refine c_region ?_
     refine o_step rfl (s_move rfl) ?_
     refine o_step rfl (s_neq_f rfl rfl rfl) ?_
     refine o_step rfl (s_move rfl) ?_
     refine o_yes rfl rfl ?_
     refine o_step rfl (s_move rfl) ?_
     refine o_yes rfl rfl ?_
     refine o_step rfl (s_neq_f rfl rfl rfl) ?_
     refine o_step rfl (s_pick_f rfl rfl) ?_
     refine o_step rfl (s_move rfl) ?_
     refine o_yes rfl rfl ?_
     refine o_step rfl (s_move rfl) ?_
     refine o_yes rfl rfl ?_
     refine o_step rfl (s_neq_f rfl rfl rfl) ?_
     refine o_step rfl (s_pick_f rfl rfl) ?_
     refine o_step rfl (s_move rfl) ?_
     refine o_yes rfl rfl ?_
     refine o_step rfl (s_move rfl) ?_
     refine o_yes rfl rfl ?_
     refine o_step rfl (s_move rfl) ?_
     refine o_yes rfl rfl ?_
     refine o_step rfl (s_neq_f rfl rfl rfl) ?_
     refine o_step rfl (s_pick_f rfl rfl) ?_
     refine o_step rfl (s_move rfl) ?_
     refine o_yes rfl rfl ?_
     refine o_step rfl (s_move rfl) ?_
     refine o_yes rfl rfl ?_
     refine o_step rfl (s_neq_f rfl rfl rfl) ?_
     refine o_step rfl (s_pick_f rfl rfl) ?_
     refine o_step rfl (s_move rfl) ?_
     refine o_yes rfl rfl ?_
     refine o_step rfl (s_move rfl) ?_
     refine o_yes rfl rfl ?_
     refine o_step rfl (s_len rfl) ?_
     refine o_yes rfl rfl ?_
     refine o_step rfl (s_neq_f rfl rfl rfl) ?_
     refine o_step rfl (s_pick_f rfl rfl) ?_
     refine o_nil ?_
     refine x_then (hK15 _ _ ?_)
     refine c_false rfl ?_
     refine c_skip ?_
     refine x_then (hK14 _ _ ?_)
     refine c_seq fun _ hK16 => ?_
     refine c_region ?_
     refine o_step rfl (s_move rfl) ?_
     refine o_step rfl (s_move rfl) ?_
     refine o_callP (eqBytes_fn a70 a52 c70 c52 (doF w (ps.map Pc.abs) 0 (chs first all xs)) (doF w (ps.map Pc.abs) 0 (chs first all xs))) rfl rfl rfl (fun _ st => ⟨(hSo70.rdk hiA).out _ st, (hSo52.rdk hiA).out _ st⟩) (fun v119 hv119 => ?_)
     rw [decide_eq_true rfl] at hv119
     subst hv119
     refine o_step rfl (s_move rfl) ?_
     refine o_yes rfl rfl ?_
     refine o_callP (works_fn) rfl rfl rfl (fun _ _ => trivial) (fun v121 hv121 => ?_)
     subst hv121
     refine o_step rfl (s_pick_t rfl rfl) ?_
     refine o_step rfl (s_assign rfl) ?_
     refine o_nil ?_
     refine x_then (hK16 _ _ ?_)
     refine c_ret ?_
     refine ?_
     exact x_ret rfl (.tmp rfl (.nil)) (rfl)
   ·
    refine o_step rfl (s_pick_f rfl rfl) ?_
    refine o_nil ?_
    refine x_then (hK7 _ _ ?_)
    refine c_true rfl ?_
    refine c_seq fun _ hK17 => ?_
    refine c_region ?_
    refine o_callP (works_fn) rfl rfl rfl (fun _ _ => trivial) (fun v30 hv30 => ?_)
    subst hv30
    refine o_step rfl (s_assign rfl) ?_
    refine o_nil ?_
    refine x_then (hK17 _ _ ?_)
    refine c_ret ?_
    refine x_then_ret (?_)
    exact x_ret rfl (.tmp rfl (.nil)) (rfl)
end Go.Proofs.Ytmpeokbongnniaa
