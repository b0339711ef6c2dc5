/- Part of the proofs over this seat: see the text that holds the theorem. Conditions: each theorem bears its own. -/
import Derived.Test.YtmompllplidphaaDoorSN4
import Derived.Test.YtmompllplidphaaDoorSW2Z
import Derived.Test.YtmompllplidphaaDoorSM1Z
namespace Go.Proofs.YtmompllplidphaaDoor
open Go Go.HL Go.Proofs Go.HL.Kl Go.HL.Kl.Mc
set_option maxHeartbeats 1000000 in
theorem rWeigh_step (x : Nd) (ks : F) (ih : ∀ y ks1, ks1.size < ks.size → WeighC Tryd.prog 65 y ks1) (ra : Option Addr) (rc : Nat) (re : List Nd) (i i1 : Nat) (hre : ∀ x ∈ re, -128 ≤ x.op ∧ x.op < 128) (hp : Part re (.nd x ks .nil) i i1) : HL.Fn Tryd.prog 65 [.slice ra re.length rc, .int .i64 i] (fun w => Rd En w (.slice ra re.length rc) re) [] (fun v _ => v = .tuple #[.int .i64 (cut (F.nd x ks .nil).weight), .int .i64 i1]) := by
  refine fn_of Tryd.func65 rfl rfl rfl fun w0 hw => ?_
  have hsl := hw.sl
  have hbl := hsl.le
  obtain ⟨hx, hpk, hpn⟩ := hp.head
  have hii : i1 = i + 1 + ks.size := by simpa [F.size] using hpn.len
  have hile := hp.le
  have hok : ndOk x = true := hp.wf.1
  have hk0 := ndOk_kids hok
  have hkn : (ks.num : Int) = x.kids := hp.wf.2.1
  have hop := hre x (List.mem_of_getElem? hx)
  have hilt : i < re.length := (List.getElem?_eq_some_iff.1 hx).1
  have htl := times_le hok
  have htp := times_pos x
  have hns := F.num_le ks
  have hpkl := hpk.le
  rw [← hii] at hpk
  refine c_seq fun _ hK1 => ?_
  refine c_region ?_
  refine o_step rfl (s_assign rfl) ?_
  refine o_step rfl (s_assign rfl) ?_
  refine o_nil ?_
  refine x_then (hK1 _ _ ?_)
  refine c_seq fun _ hK2 => ?_
  refine c_region ?_
  refine o_step rfl (s_move rfl) ?_
  refine o_step rfl (s_move rfl) ?_
  refine o_step rfl (s_idx rfl rfl hsl (by omega)) ?_
  refine o_step rfl (s_ldB rfl ((RdK.old0 hw).lds i hx rfl) (by rfl)) ?_
  refine o_alloc (l := En zN) (by rw [En_zero]; rfl) rfl fun b6 => ?_
  refine o_stW rfl rfl upA lnA lnA onA ?_
  refine o_nil ?_
  refine x_then (hK2 _ _ ?_)
  refine c_seq fun _ hK3 => ?_
  refine c_region ?_
  refine o_step rfl (s_assign rfl) ?_
  refine o_nil ?_
  refine x_then (hK3 _ _ ?_)
  refine c_seq fun _ hK4 => ?_
  refine c_region ?_
  refine o_step rfl (s_move rfl) ?_
  refine o_step rfl (s_add rfl rfl (by omega)) ?_
  refine o_step rfl (s_assign rfl) ?_
  refine o_nil ?_
  refine x_then (hK4 _ _ ?_)
  refine c_seq fun _ hK5 => ?_
  refine c_seq fun _ hK6 => ?_
  refine c_region ?_
  refine o_step rfl (s_assign rfl) ?_
  refine o_nil ?_
  refine x_then (hK6 _ _ ?_)
  refine c_block ?_
  refine c_loop4 (fun (k : Nat) (to : Nat) (dw : Nat) (r : F) => k + r.num = ks.num ∧ Part re r to i1 ∧ dw + r.weight = ks.weight ∧ r.size ≤ ks.size) (fun (k : Nat) (to : Nat) (dw : Nat) (r : F) => [(9, .int .i64 k), (7, .int .i64 (cut dw)), (8, .int .i64 to)]) [(0, _), (4, _), (5, _), (6, _)] (fun (k : Nat) (to : Nat) (dw : Nat) (r : F) => [(b6, .cells (En x).toArray 57 (0, 0))]) (fun (k : Nat) (to : Nat) (dw : Nat) (r : F) => ks.num - k) 0 (i + 1) 0 ks ⟨by omega, hpk, by omega, Nat.le_refl _⟩ sbA sbA hzB ?_
  rintro k to dw r ⟨hkr, hpr, hdw, hrs⟩
  have hcl := cut_le dw
  refine c_seq fun _ hK7 => ?_
  refine c_seq fun _ hK8 => ?_
  refine c_region ?_
  refine o_step rfl (s_move rfl) ?_
  refine o_step rfl (s_field rfl rfl (by decide)) ?_
  refine o_step rfl (s_ld rfl (.own meA rfl)) ?_
  by_cases hkl : (k : Int) < x.kids
  ·
   obtain ⟨y, ks1, r1, rfl⟩ : ∃ y ks1 r1, r = F.nd y ks1 r1 := by cases r with | nil => simp [F.num] at hkr; omega | nd y a b => exact ⟨y, a, b, rfl⟩
   obtain ⟨hy, hpy, hpt⟩ := hpr.head
   have hpy1 : Part re (.nd y ks1 .nil) to (to + 1 + ks1.size) := hpr.one
   have hrs2 : ks1.size < ks.size := by simp only [F.size] at hrs; omega
   have hcy := cut_le (F.nd y ks1 .nil).weight
   have hpyl := hpy1.le
   refine o_step rfl (step_cast (v' := .bool true) (s_lss rfl rfl) (by rw [decide_eq_true (by omega)])) ?_
   refine o_nil ?_
   refine x_then (hK8 _ _ ?_)
   refine c_true rfl ?_
   refine c_skip ?_
   refine x_then (hK7 _ _ ?_)
   refine c_seq fun _ hK9 => ?_
   refine c_block ?_
   refine c_seq fun _ hK10 => ?_
   refine c_region ?_
   refine o_step rfl (s_move rfl) ?_
   refine o_step rfl (s_move rfl) ?_
   refine o_callP (ih y ks1 hrs2 ra rc re to (to + 1 + ks1.size) hre hpy1) rfl rfl rfl (fun w st => (RdK.old0 hw).out w st) (fun v28 hv28 => ?_)
   subst hv28
   refine o_step rfl (s_move rfl) ?_
   refine o_step rfl (s_extract rfl rfl) ?_
   refine o_step rfl (s_extract rfl rfl) ?_
   refine o_step rfl (s_assign rfl) ?_
   refine o_step rfl (s_assign rfl) ?_
   refine o_nil ?_
   refine x_then (hK10 _ _ ?_)
   refine c_seq fun _ hK11 => ?_
   refine c_region ?_
   refine o_step rfl (s_move rfl) ?_
   refine o_step rfl (s_move rfl) ?_
   refine o_step rfl (s_add rfl rfl (by omega)) ?_
   refine o_step rfl (step_cast (v' := .int .i64 (cut (dw + (F.nd y ks1 .nil).weight))) (s_min rfl rfl) (by rw [← cut_add]; unfold cut; congr 1; omega)) ?_
   refine o_step rfl (s_assign rfl) ?_
   refine o_nil ?_
   refine x_then (hK11 _ _ ?_)
   refine c_region ?_
   refine o_step rfl (s_move rfl) ?_
   refine o_step rfl (s_assign rfl) ?_
   refine o_nil ?_
   refine x_block ?_
   refine x_then (hK9 _ _ ?_)
   refine c_region ?_
   refine o_step rfl (s_move rfl) ?_
   refine o_step rfl (s_add rfl rfl (by omega)) ?_
   refine o_step rfl (s_assign rfl) ?_
   refine o_nil ?_
   exact x_then (x_inv (k + 1, to + 1 + ks1.size, dw + (F.nd y ks1 .nil).weight, r1) ⟨by simp only [F.num] at hkr; dsimp only; omega, hpt, by simp only [F.weight] at hdw ⊢; omega, by simp only [F.size] at hrs; dsimp only; omega⟩ (by first | omega | (dsimp only; omega)) sbA hzB)
  ·
   obtain rfl : r = F.nil := by cases r with | nil => rfl | nd y a b => simp only [F.num] at hkr; omega
   have hto : to = i1 := by have := hpr.len; simp [F.size] at this; omega
   obtain rfl : dw = ks.weight := by simpa [F.weight] using hdw
   subst hto
   refine o_step rfl (step_cast (v' := .bool false) (s_lss rfl rfl) (by rw [decide_eq_false (by omega)])) ?_
   refine o_nil ?_
   refine x_then (hK8 _ _ ?_)
   refine c_false rfl ?_
   refine c_exit ?_
   refine x_then_exit ?_
   refine x_then_exit ?_
   refine x_block_exit ?_
   refine x_then (hK5 _ _ ?_)
   refine c_seq fun _ hK12 => ?_
   refine c_region ?_
   refine o_step rfl (s_assign rfl) ?_
   refine o_nil ?_
   refine x_then (hK12 _ _ ?_)
   refine c_seq fun _ hK13 => ?_
   refine c_seq fun _ hK14 => ?_
   refine c_region ?_
   refine o_step rfl (s_field rfl rfl (by decide)) ?_
   refine o_step rfl (s_ld rfl (.own meA rfl)) ?_
   refine o_step rfl (s_convI rfl (by omega)) ?_
   by_cases h6 : x.op = 6
   ·
    have hrf := rep_flds hok h6
    refine o_step rfl (step_cast (v' := .bool true) (s_eql rfl rfl) (by rw [decide_eq_true (by omega)])) ?_
    refine o_nil ?_
    refine x_then (hK14 _ _ ?_)
    refine c_true rfl ?_
    refine c_seq fun _ hK15 => ?_
    refine c_region ?_
    refine o_step rfl (s_field rfl rfl (by decide)) ?_
    refine o_step rfl (s_ld rfl (.own meA rfl)) ?_
    refine o_step rfl (s_max rfl rfl) ?_
    refine o_step rfl (s_assign rfl) ?_
    refine o_nil ?_
    refine x_then (hK15 _ _ ?_)
    refine c_seq fun _ hK16 => ?_
    refine c_region ?_
    refine o_step rfl (s_field rfl rfl (by decide)) ?_
    refine o_step rfl (s_ld rfl (.own meA rfl)) ?_
    by_cases hmx : x.mx < 0
    ·
     have ht1 : (times x : Int) = x.mn + 1 := by rw [times, if_pos h6, if_pos hmx]; omega
     have hclw := cut_le ks.weight
     have hm1 : (times x : Int) * (cut ks.weight : Int) ≤ 4194560 := by rw [Int.mul_comm]; exact mul_leZ hclw htl
     have hm0 : 0 ≤ (times x : Int) * (cut ks.weight : Int) := mul_0Z _ _
     have hfin := cut_fin2 (t := times x) (a := ks.weight) htp
     rw [ht1] at hfin hm1 hm0
     refine o_step rfl (step_cast (v' := .bool true) (s_lss rfl rfl) (by rw [decide_eq_true (by omega)])) ?_
     refine o_nil ?_
     refine x_then (hK16 _ _ ?_)
     refine c_true rfl ?_
     refine c_region ?_
     refine o_step rfl (s_field rfl rfl (by decide)) ?_
     refine o_step rfl (s_ld rfl (.own meA rfl)) ?_
     refine o_step rfl (s_add rfl rfl (by omega)) ?_
     refine o_step rfl (s_assign rfl) ?_
     refine o_nil ?_
     refine x_then (hK13 _ _ ?_)
     refine c_seq fun _ hK17 => ?_
     refine c_region ?_
     refine o_step rfl (s_move rfl) ?_
     refine o_step rfl (s_move rfl) ?_
     refine o_step rfl (s_mul rfl rfl (by omega)) ?_
     refine o_step rfl (s_add rfl rfl (by omega)) ?_
     refine o_step rfl (step_cast (v' := .int .i64 (cut (1 + times x * ks.weight) : Nat)) (s_min rfl rfl) (congrArg (Value.int .i64) hfin)) ?_
     refine o_step rfl (s_move rfl) ?_
     refine o_step rfl (s_assign rfl) ?_
     refine o_step rfl (s_assign rfl) ?_
     refine o_nil ?_
     refine x_then (hK17 _ _ ?_)
     refine c_ret ?_
     refine ?_
     exact x_ret rfl (.tmp rfl (.tmp rfl (.nil))) ((by rw [weight_one]; rfl))
    ·
     have ht1 : (times x : Int) = max x.mx 1 := by rw [times, if_pos h6, if_neg hmx]; omega
     have hclw := cut_le ks.weight
     have hm1 : (times x : Int) * (cut ks.weight : Int) ≤ 4194560 := by rw [Int.mul_comm]; exact mul_leZ hclw htl
     have hm0 : 0 ≤ (times x : Int) * (cut ks.weight : Int) := mul_0Z _ _
     have hfin := cut_fin2 (t := times x) (a := ks.weight) htp
     rw [ht1] at hfin hm1 hm0
     refine o_step rfl (step_cast (v' := .bool false) (s_lss rfl rfl) (by rw [decide_eq_false (by omega)])) ?_
     refine o_nil ?_
     refine x_then (hK16 _ _ ?_)
     refine c_false rfl ?_
     refine c_skip ?_
     refine x_then (hK13 _ _ ?_)
     refine c_seq fun _ hK18 => ?_
     refine c_region ?_
     refine o_step rfl (s_move rfl) ?_
     refine o_step rfl (s_move rfl) ?_
     refine o_step rfl (s_mul rfl rfl (by omega)) ?_
     refine o_step rfl (s_add rfl rfl (by omega)) ?_
     refine o_step rfl (step_cast (v' := .int .i64 (cut (1 + times x * ks.weight) : Nat)) (s_min rfl rfl) (congrArg (Value.int .i64) hfin)) ?_
     refine o_step rfl (s_move rfl) ?_
     refine o_step rfl (s_assign rfl) ?_
     refine o_step rfl (s_assign rfl) ?_
     refine o_nil ?_
     refine x_then (hK18 _ _ ?_)
     refine c_ret ?_
     refine ?_
     exact x_ret rfl (.tmp rfl (.tmp rfl (.nil))) ((by rw [weight_one]; rfl))
   ·
    have ht1 : (times x : Int) = 1 := by rw [times, if_neg h6]; rfl
    have hclw := cut_le ks.weight
    have hm1 : (times x : Int) * (cut ks.weight : Int) ≤ 4194560 := by rw [Int.mul_comm]; exact mul_leZ hclw htl
    have hm0 : 0 ≤ (times x : Int) * (cut ks.weight : Int) := mul_0Z _ _
    have hfin := cut_fin2 (t := times x) (a := ks.weight) htp
    rw [ht1] at hfin hm1 hm0
    refine o_step rfl (step_cast (v' := .bool false) (s_eql rfl rfl) (by rw [decide_eq_false (by omega)])) ?_
    refine o_nil ?_
    refine x_then (hK14 _ _ ?_)
    refine c_false rfl ?_
    refine c_skip ?_
    refine x_then (hK13 _ _ ?_)
    refine c_seq fun _ hK19 => ?_
    refine c_region ?_
    refine o_step rfl (s_move rfl) ?_
    refine o_step rfl (s_move rfl) ?_
    refine o_step rfl (s_mul rfl rfl (by omega)) ?_
    refine o_step rfl (s_add rfl rfl (by omega)) ?_
    refine o_step rfl (step_cast (v' := .int .i64 (cut (1 + times x * ks.weight) : Nat)) (s_min rfl rfl) (congrArg (Value.int .i64) hfin)) ?_
    refine o_step rfl (s_move rfl) ?_
    refine o_step rfl (s_assign rfl) ?_
    refine o_step rfl (s_assign rfl) ?_
    refine o_nil ?_
    refine x_then (hK19 _ _ ?_)
    refine c_ret ?_
    refine ?_
    exact x_ret rfl (.tmp rfl (.tmp rfl (.nil))) ((by rw [weight_one]; rfl))
theorem weigh_fn : ∀ (n : Nat) (x : Nd) (ks : F), ks.size < n → WeighC Tryd.prog 79 x ks := by
  intro n
  induction n with
  | zero => intro x ks h; omega
  | succ n ih => exact fun x ks h ra rc re i i1 h1 h2 => weigh_step x ks (fun y ks1 hs => ih y ks1 (by omega)) ra rc re i i1 h1 h2
theorem rWeigh_fn : ∀ (n : Nat) (x : Nd) (ks : F), ks.size < n → WeighC Tryd.prog 65 x ks := by
  intro n
  induction n with
  | zero => intro x ks h; omega
  | succ n ih => exact fun x ks h ra rc re i i1 h1 h2 => rWeigh_step x ks (fun y ks1 hs => ih y ks1 (by omega)) ra rc re i i1 h1 h2
theorem shaped_fn (ra : Option Addr) (rc : Nat) (re : List Nd) (hre : ∀ x ∈ re, -128 ≤ x.op ∧ x.op < 128) : HL.Fn Tryd.prog 56 [.slice ra re.length rc] (fun w => Rd En w (.slice ra re.length rc) re) [] (fun v _ => v = .bool (shapedB re)) := by
  refine fn_of Tryd.func56 rfl rfl rfl fun w0 hw => ?_
  have hsl := hw.sl
  have hbl := hsl.le
  refine c_seq fun _ hK1 => ?_
  refine c_region ?_
  refine o_step rfl (s_assign rfl) ?_
  refine o_nil ?_
  refine x_then (hK1 _ _ ?_)
  refine c_seq fun _ hK2 => ?_
  refine c_region ?_
  refine o_step rfl (s_move rfl) ?_
  refine o_step rfl (s_build (cs := [_, _, _]) (vs := [_]) rfl rfl (.cons rfl rfl rfl rfl rfl (.nil))) ?_
  refine o_box rfl rfl rfl fun b8 => ?_
  refine o_step rfl (s_assign rfl) ?_
  refine o_nil ?_
  refine x_then (hK2 _ _ ?_)
  refine c_seq fun _ hK3 => ?_
  refine c_seq fun _ hK4 => ?_
  refine c_region ?_
  refine o_step rfl (s_move rfl) ?_
  refine o_call (node_fn 260 b8 ra rc re 0 0 0 none 0 [] [] hre rfl (Nat.zero_le _) (by decide) (by decide) .nil) rfl rfl rfl (by exact .one) (fun w st => ⟨(RdK.old0 hw).out w st, St.apart_M st (by exact HIn.one) hw (Apart.nil) (by decide)⟩) (fun v10 S10 hv10 => ?_)
  rcases hst : shN re 260 0 [] 0 with _ | ⟨j, enx⟩
  ·
   obtain rfl : v10 = .bool false := by rw [hst] at hv10; exact hv10
   have hN := shp_none hst
   refine o_step rfl (s_not rfl) ?_
   refine o_step rfl (s_move rfl) ?_
   refine o_no rfl rfl rfl rfl ?_
   refine o_no rfl rfl rfl rfl ?_
   refine o_no rfl rfl rfl rfl ?_
   refine o_no rfl rfl rfl rfl ?_
   refine o_no rfl rfl rfl rfl ?_
   refine o_no rfl rfl rfl rfl ?_
   refine o_no rfl rfl rfl rfl ?_
   refine o_step rfl (s_pick_t rfl rfl) ?_
   refine o_nil ?_
   refine x_then (hK4 _ _ ?_)
   refine c_true rfl ?_
   refine c_seq fun _ hK5 => ?_
   refine c_region ?_
   refine o_step rfl (s_assign rfl) ?_
   refine o_nil ?_
   refine x_then (hK5 _ _ ?_)
   refine c_ret ?_
   refine x_then_ret (?_)
   exact x_ret rfl (.tmp rfl (.nil)) ((congrArg Value.bool hN.symm))
  ·
   obtain ⟨hu10, ea3, ec3, Se3, rfl, hO3⟩ : v10 = .bool true ∧ ∃ ea3 ec3 Se3, S10 = LookB 125 b8 ra rc re j ea3 ec3 enx :: Se3 ∧ OwnS Ebo 1 4 (.slice ea3 enx.length ec3) enx Se3 := by rw [hst] at hv10; exact hv10
   subst hu10
   unfold LookB
   refine o_step rfl (s_not rfl) ?_
   refine o_step rfl (s_move rfl) ?_
   refine o_yes rfl rfl ?_
   refine o_step rfl (s_move rfl) ?_
   refine o_yes rfl rfl ?_
   refine o_step rfl (s_nil rfl) ?_
   refine o_yes rfl rfl ?_
   refine o_step rfl (s_field rfl rfl (by decide)) ?_
   refine o_yes rfl rfl ?_
   refine o_step rfl (s_ld rfl (.own meA rfl)) ?_
   refine o_yes rfl rfl ?_
   refine o_step rfl (s_move rfl) ?_
   refine o_yes rfl rfl ?_
   refine o_step rfl (s_len rfl) ?_
   refine o_yes rfl rfl ?_
   by_cases hj : j ≠ re.length
   ·
    have hN := shp_end hst hj
    refine o_step rfl (step_cast (v' := .bool true) (s_neq rfl rfl) (by rw [decide_eq_true (by omega)])) ?_
    refine o_step rfl (s_pick_f rfl rfl) ?_
    refine o_nil ?_
    refine x_then (hK4 _ _ ?_)
    refine c_true rfl ?_
    refine c_seq fun _ hK6 => ?_
    refine c_region ?_
    refine o_step rfl (s_assign rfl) ?_
    refine o_nil ?_
    refine x_then (hK6 _ _ ?_)
    refine c_ret ?_
    refine x_then_ret (?_)
    exact x_ret rfl (.tmp rfl (.nil)) ((congrArg Value.bool hN.symm))
   ·
    obtain rfl : j = re.length := Decidable.not_not.1 hj
    obtain ⟨x, ks, hpt, hdp, hshp⟩ := shp_tree hst
    refine o_step rfl (step_cast (v' := .bool false) (s_neq rfl rfl) (by rw [decide_eq_false (by omega)])) ?_
    refine o_step rfl (s_pick_f rfl rfl) ?_
    refine o_nil ?_
    refine x_then (hK4 _ _ ?_)
    refine c_false rfl ?_
    refine c_skip ?_
    refine x_then (hK3 _ _ ?_)
    refine c_seq fun _ hK7 => ?_
    refine c_region ?_
    refine o_step rfl (s_move rfl) ?_
    refine o_callP (weigh_fn (ks.size + 1) x ks (by omega) ra rc re 0 re.length hre hpt) rfl rfl rfl (fun w st => (RdK.old0 hw).out w st) (fun v23 hv23 => ?_)
    subst hv23
    refine o_step rfl (s_move rfl) ?_
    refine o_step rfl (s_extract rfl rfl) ?_
    refine o_step rfl (s_extract rfl rfl) ?_
    refine o_step rfl (s_assign rfl) ?_
    refine o_step rfl (s_assign rfl) ?_
    refine o_nil ?_
    refine x_then (hK7 _ _ ?_)
    refine c_seq fun _ hK8 => ?_
    refine c_region ?_
    refine o_step rfl (s_move rfl) ?_
    refine o_step rfl (s_leq rfl rfl) ?_
    refine o_step rfl (s_assign rfl) ?_
    refine o_nil ?_
    refine x_then (hK8 _ _ ?_)
    refine c_ret ?_
    refine ?_
    exact x_ret rfl (.tmp rfl (.nil)) ((congrArg Value.bool (by rw [hshp]; exact decide_eq_decide.2 (by omega))))
theorem rShaped_fn (ra : Option Addr) (rc : Nat) (re : List Nd) (hre : ∀ x ∈ re, -128 ≤ x.op ∧ x.op < 128) : HL.Fn Tryd.prog 24 [.slice ra re.length rc] (fun w => Rd En w (.slice ra re.length rc) re) [] (fun v _ => v = .bool (shapedB re)) := by
  refine fn_of Tryd.func24 rfl rfl rfl fun w0 hw => ?_
  have hsl := hw.sl
  have hbl := hsl.le
  refine c_seq fun _ hK1 => ?_
  refine c_region ?_
  refine o_step rfl (s_assign rfl) ?_
  refine o_nil ?_
  refine x_then (hK1 _ _ ?_)
  refine c_seq fun _ hK2 => ?_
  refine c_region ?_
  refine o_step rfl (s_move rfl) ?_
  refine o_step rfl (s_build (cs := [_, _, _]) (vs := [_]) rfl rfl (.cons rfl rfl rfl rfl rfl (.nil))) ?_
  refine o_box rfl rfl rfl fun b8 => ?_
  refine o_step rfl (s_assign rfl) ?_
  refine o_nil ?_
  refine x_then (hK2 _ _ ?_)
  refine c_seq fun _ hK3 => ?_
  refine c_seq fun _ hK4 => ?_
  refine c_region ?_
  refine o_step rfl (s_move rfl) ?_
  refine o_call (rNode_fn 260 b8 ra rc re 0 0 0 none 0 [] [] hre rfl (Nat.zero_le _) (by decide) (by decide) .nil) rfl rfl rfl (by exact .one) (fun w st => ⟨(RdK.old0 hw).out w st, St.apart_M st (by exact HIn.one) hw (Apart.nil) (by decide)⟩) (fun v10 S10 hv10 => ?_)
  rcases hst : shN re 260 0 [] 0 with _ | ⟨j, enx⟩
  ·
   obtain rfl : v10 = .bool false := by rw [hst] at hv10; exact hv10
   have hN := shp_none hst
   refine o_step rfl (s_not rfl) ?_
   refine o_step rfl (s_move rfl) ?_
   refine o_no rfl rfl rfl rfl ?_
   refine o_no rfl rfl rfl rfl ?_
   refine o_no rfl rfl rfl rfl ?_
   refine o_no rfl rfl rfl rfl ?_
   refine o_no rfl rfl rfl rfl ?_
   refine o_no rfl rfl rfl rfl ?_
   refine o_no rfl rfl rfl rfl ?_
   refine o_step rfl (s_pick_t rfl rfl) ?_
   refine o_nil ?_
   refine x_then (hK4 _ _ ?_)
   refine c_true rfl ?_
   refine c_seq fun _ hK5 => ?_
   refine c_region ?_
   refine o_step rfl (s_assign rfl) ?_
   refine o_nil ?_
   refine x_then (hK5 _ _ ?_)
   refine c_ret ?_
   refine x_then_ret (?_)
   exact x_ret rfl (.tmp rfl (.nil)) ((congrArg Value.bool hN.symm))
  ·
   obtain ⟨hu10, ea3, ec3, Se3, rfl, hO3⟩ : v10 = .bool true ∧ ∃ ea3 ec3 Se3, S10 = LookB 99 b8 ra rc re j ea3 ec3 enx :: Se3 ∧ OwnS Ebo 1 4 (.slice ea3 enx.length ec3) enx Se3 := by rw [hst] at hv10; exact hv10
   subst hu10
   unfold LookB
   refine o_step rfl (s_not rfl) ?_
   refine o_step rfl (s_move rfl) ?_
   refine o_yes rfl rfl ?_
   refine o_step rfl (s_move rfl) ?_
   refine o_yes rfl rfl ?_
   refine o_step rfl (s_nil rfl) ?_
   refine o_yes rfl rfl ?_
   refine o_step rfl (s_field rfl rfl (by decide)) ?_
   refine o_yes rfl rfl ?_
   refine o_step rfl (s_ld rfl (.own meA rfl)) ?_
   refine o_yes rfl rfl ?_
   refine o_step rfl (s_move rfl) ?_
   refine o_yes rfl rfl ?_
   refine o_step rfl (s_len rfl) ?_
   refine o_yes rfl rfl ?_
   by_cases hj : j ≠ re.length
   ·
    have hN := shp_end hst hj
    refine o_step rfl (step_cast (v' := .bool true) (s_neq rfl rfl) (by rw [decide_eq_true (by omega)])) ?_
    refine o_step rfl (s_pick_f rfl rfl) ?_
    refine o_nil ?_
    refine x_then (hK4 _ _ ?_)
    refine c_true rfl ?_
    refine c_seq fun _ hK6 => ?_
    refine c_region ?_
    refine o_step rfl (s_assign rfl) ?_
    refine o_nil ?_
    refine x_then (hK6 _ _ ?_)
    refine c_ret ?_
    refine x_then_ret (?_)
    exact x_ret rfl (.tmp rfl (.nil)) ((congrArg Value.bool hN.symm))
   ·
    obtain rfl : j = re.length := Decidable.not_not.1 hj
    obtain ⟨x, ks, hpt, hdp, hshp⟩ := shp_tree hst
    refine o_step rfl (step_cast (v' := .bool false) (s_neq rfl rfl) (by rw [decide_eq_false (by omega)])) ?_
    refine o_step rfl (s_pick_f rfl rfl) ?_
    refine o_nil ?_
    refine x_then (hK4 _ _ ?_)
    refine c_false rfl ?_
    refine c_skip ?_
    refine x_then (hK3 _ _ ?_)
    refine c_seq fun _ hK7 => ?_
    refine c_region ?_
    refine o_step rfl (s_move rfl) ?_
    refine o_callP (rWeigh_fn (ks.size + 1) x ks (by omega) ra rc re 0 re.length hre hpt) rfl rfl rfl (fun w st => (RdK.old0 hw).out w st) (fun v23 hv23 => ?_)
    subst hv23
    refine o_step rfl (s_move rfl) ?_
    refine o_step rfl (s_extract rfl rfl) ?_
    refine o_step rfl (s_extract rfl rfl) ?_
    refine o_step rfl (s_assign rfl) ?_
    refine o_step rfl (s_assign rfl) ?_
    refine o_nil ?_
    refine x_then (hK7 _ _ ?_)
    refine c_seq fun _ hK8 => ?_
    refine c_region ?_
    refine o_step rfl (s_move rfl) ?_
    refine o_step rfl (s_leq rfl rfl) ?_
    refine o_step rfl (s_assign rfl) ?_
    refine o_nil ?_
    refine x_then (hK8 _ _ ?_)
    refine c_ret ?_
    refine ?_
    exact x_ret rfl (.tmp rfl (.nil)) ((congrArg Value.bool (by rw [hshp]; exact decide_eq_decide.2 (by omega))))
theorem refs_fn (ra : Option Addr) (rc : Nat) (re : List Nd) (hre : ∀ x ∈ re, -128 ≤ x.op ∧ x.op < 128) : HL.Fn Tryd.prog 57 [.slice ra re.length rc] (fun w => Rd En w (.slice ra re.length rc) re) [] (fun v _ => v = .bool (refsB re)) := by
  refine fn_of Tryd.func57 rfl rfl rfl fun w0 hw => ?_
  have hsl := hw.sl
  have hbl := hsl.le
  refine c_seq fun _ hK1 => ?_
  refine c_region ?_
  refine o_step rfl (s_assign rfl) ?_
  refine o_nil ?_
  refine x_then (hK1 _ _ ?_)
  refine c_seq fun _ hK2 => ?_
  refine c_seq fun _ hK3 => ?_
  refine c_region ?_
  refine o_step rfl (s_move rfl) ?_
  refine o_callP (shaped_fn ra rc re hre) rfl rfl rfl (fun w st => (RdK.old0 hw).out w st) (fun v6 hv6 => ?_)
  subst hv6
  cases hs : shapedB re
  ·
   refine o_nil ?_
   refine x_then (hK3 _ _ ?_)
   refine c_false rfl ?_
   refine c_skip ?_
   refine x_then (hK2 _ _ ?_)
   refine c_seq fun _ hK4 => ?_
   refine c_region ?_
   refine o_step rfl (s_assign rfl) ?_
   refine o_nil ?_
   refine x_then (hK4 _ _ ?_)
   refine c_ret ?_
   refine ?_
   exact x_ret rfl (.tmp rfl (.nil)) ((congrArg Value.bool (refs_shp hs).symm))
  ·
   refine o_nil ?_
   refine x_then (hK3 _ _ ?_)
   refine c_true rfl ?_
   refine c_seq fun _ hK5 => ?_
   refine c_region ?_
   refine o_step rfl (s_move rfl) ?_
   refine o_step rfl (s_len rfl) ?_
   refine o_step rfl (s_move rfl) ?_
   refine o_nil ?_
   refine x_then (hK5 _ _ ?_)
   refine c_block ?_
   -- not carried: 2
   refine c_loopB (fun (j : Nat) => j ≤ re.length ∧ ∀ q (x : Nd), q < j → re[q]? = some x → ¬ x.op = 8) (fun (j : Nat) => [(9, .int .i64 j)]) [(7, _), (8, _)] (fun (j : Nat) => []) (fun (j : Nat) => re.length - j) 0 ⟨by omega, fun q x h => by omega⟩ sbA sbA hzB ?_
   rintro j ⟨hj, hjn⟩
   refine c_seq fun _ hK6 => ?_
   refine c_region ?_
   by_cases hjl : j < re.length
   ·
    obtain ⟨x, hx⟩ : ∃ x, re[j]? = some x := ⟨_, List.getElem?_eq_getElem hjl⟩
    refine o_step rfl (step_cast (v' := .bool true) (s_lss rfl rfl) (by rw [decide_eq_true (by omega)])) ?_
    refine o_nil ?_
    refine x_then (hK6 _ _ ?_)
    refine c_seq fun _ hK7 => ?_
    refine c_true rfl ?_
    refine c_skip ?_
    refine x_then (hK7 _ _ ?_)
    refine c_seq fun _ hK8 => ?_
    refine c_block ?_
    refine c_seq fun _ hK9 => ?_
    refine c_region ?_
    refine o_step rfl (s_idx rfl rfl hsl (by omega)) ?_
    refine o_step rfl (s_ldB rfl ((RdK.old0 hw).lds j hx rfl) (by rfl)) ?_
    refine o_alloc (l := En zN) (by rw [En_zero]; rfl) rfl fun b4 => ?_
    refine o_stW rfl rfl upA lnA lnA onA ?_
    refine o_nil ?_
    refine x_then (hK9 _ _ ?_)
    refine c_seq fun _ hK10 => ?_
    refine c_region ?_
    refine o_step rfl (s_field rfl rfl (by decide)) ?_
    refine o_step rfl (s_ld rfl (.own meA rfl)) ?_
    by_cases h8 : x.op = 8
    ·
     refine o_step rfl (step_cast (v' := .bool true) (s_eql rfl rfl) (by rw [decide_eq_true h8])) ?_
     refine o_nil ?_
     refine x_then (hK10 _ _ ?_)
     refine c_true rfl ?_
     refine c_seq fun _ hK11 => ?_
     refine c_region ?_
     refine o_step rfl (s_assign rfl) ?_
     refine o_nil ?_
     refine x_then (hK11 _ _ ?_)
     refine c_ret ?_
     refine x_block_ret (x_then_ret (x_then_ret (x_block_ret (x_then_ret (?_)))))
     exact x_ret rfl (.tmp rfl (.nil)) ((congrArg Value.bool (refs_yes hs (List.mem_of_getElem? hx) h8).symm))
    ·
     refine o_step rfl (step_cast (v' := .bool false) (s_eql rfl rfl) (by rw [decide_eq_false h8])) ?_
     refine o_nil ?_
     refine x_then (hK10 _ _ ?_)
     refine c_false rfl ?_
     refine c_skip ?_
     refine x_block ?_
     refine x_then (hK8 _ _ ?_)
     refine c_region ?_
     refine o_step rfl (s_add rfl rfl (by omega)) ?_
     refine o_step rfl (s_move rfl) ?_
     refine o_nil ?_
     exact x_then (x_inv (j + 1) ⟨by omega, refs_step hjn hx h8⟩ (by first | omega | (dsimp only; omega)) sbA hzB)
   ·
    obtain rfl : j = re.length := by omega
    refine o_step rfl (step_cast (v' := .bool false) (s_lss rfl rfl) (by rw [decide_eq_false (by omega)])) ?_
    refine o_nil ?_
    refine x_then (hK6 _ _ ?_)
    refine c_seq fun _ hK12 => ?_
    refine c_false rfl ?_
    refine c_exit ?_
    refine x_then_exit ?_
    refine x_then_exit ?_
    refine x_block_exit ?_
    refine x_then (hK2 _ _ ?_)
    refine c_seq fun _ hK13 => ?_
    refine c_region ?_
    refine o_step rfl (s_assign rfl) ?_
    refine o_nil ?_
    refine x_then (hK13 _ _ ?_)
    refine c_ret ?_
    refine ?_
    exact x_ret rfl (.tmp rfl (.nil)) ((congrArg Value.bool (refs_no hjn).symm))
end Go.Proofs.YtmompllplidphaaDoor
namespace Go.Proofs.YtmompllplidphaaDoor
open Go Go.HL Go.Proofs Go.HL.Kl Go.HL.Kl.Mc Go.HL.Sts
/-- the places, as the heap's part S bears them -/
def PlS (bx : Nat) (ra : Option Addr) (rc rn : Nat) (X : Plc) (S : Hp) : Prop := ∃ (sa : Option Addr) (sc : Nat) (fa : Option Addr) (fc : Nat) (Ss Sf : Hp), S = (bx, .cells [.slice ra rn rc, .slice sa X.sets.length sc, .slice fa X.fol.length fc].toArray 80 (0, 0)) :: (Sf ++ Ss) ∧ OwnS Ec 4 54 (.slice sa X.sets.length sc) X.sets Ss ∧ OwnS E3 3 84 (.slice fa X.fol.length fc) X.fol Sf
theorem PlS.cel0 {bx : Nat} {ra : Option Addr} {rc rn : Nat} {X : Plc} {S H : Hp} {κ : Cx} (h : PlS bx ra rc rn X S) (hi : HIn S H) : Cel κ H ⟨bx, 0, none⟩ (.slice ra rn rc) := by
  obtain ⟨sa, sc, fa, fc, Ss, Sf, rfl, _, _⟩ := h
  exact (RdPK.own (hi _ List.mem_cons_self)).cel (j := 0) rfl rfl
theorem joinsS_fn (bx : Nat) (ra : Option Addr) (rc rn : Nat) (X : Plc) (S : Hp) (h : PlS bx ra rc rn X S) (a b : Sp) (hl : X.fol.length ≤ 24) : HL.Fn Tryd.prog 103 [.pointer (some ⟨bx, 0, none⟩), .agg (E3 (a)).toArray, .agg (E3 (b)).toArray] (fun _ => True) S (fun _ S' => PlS bx ra rc rn (X.join a b) S') := by
  obtain ⟨sa, sc, fa, fc, Ss, Sf, rfl, hs, hf⟩ := h
  refine ((joins_fn bx ra rc rn sa sc X.sets.length fa fc X.fol Sf hf a b hl).frame (R := Ss)).weaken (fun _ h => h) fun v S' ⟨S1, h1, Sf', h2, h3⟩ => ?_
  subst h2
  exact ⟨sa, sc, fa, fc, Ss, Sf', h1, hs, h3⟩
theorem catS_fn (bx : Nat) (ra : Option Addr) (rc rn : Nat) (X : Plc) (S : Hp) (h : PlS bx ra rc rn X S) (a b : Pt) (hl : X.fol.length ≤ 24) : HL.Fn Tryd.prog 83 [.pointer (some ⟨bx, 0, none⟩), .agg (Ep4 (a)).toArray, .agg (Ep4 (b)).toArray] (fun _ => True) S (fun v S' => v = .agg (Ep4 (catP a b)).toArray ∧ PlS bx ra rc rn (X.join a.l0 b.f0) S') := by
  obtain ⟨sa, sc, fa, fc, Ss, Sf, rfl, hs, hf⟩ := h
  refine ((cat_fn bx ra rc rn sa sc X.sets.length fa fc X.fol Sf hf a b hl).frame (R := Ss)).weaken (fun _ h => h) fun v S' ⟨S1, h1, hv, Sf', h2, h3⟩ => ?_
  subst h2
  exact ⟨hv, sa, sc, fa, fc, Ss, Sf', h1, hs, h3⟩
def PartC (P : Program) (n : Nd) (ks : F) : Prop := ∀ (bx : Nat) (ra : Option Addr) (rc : Nat) (re : List Nd) (i i' : Nat) (X : Plc) (S : Hp), PlS bx ra rc re.length X S → Part re (.nd n ks .nil) i i' → shapedB re = true → (∀ x ∈ re, -128 ≤ x.op ∧ x.op < 128) → X.sets.length + cnt1 n ks ≤ 20 → X.fol.length = X.sets.length →
  HL.Fn P 59 [.pointer (some ⟨bx, 0, none⟩), .int .i64 i] (fun w => Rd En w (.slice ra re.length rc) re ∧ Apart (keys S) (.slice ra re.length rc)) S (fun v S' => v = .agg (Ep4 ((partM n ks X).1)).toArray ∧ PlS bx ra rc re.length (partM n ks X).2 S')
theorem behind_fn (ra : Option Addr) (rc : Nat) (re : List Nd) (hre : ∀ x ∈ re, -128 ≤ x.op ∧ x.op < 128) (hsb : shapedB re = true) (x : Nd) (ks : F) (i i1 : Nat) (hp : Part re (.nd x ks .nil) i i1) : HL.Fn Tryd.prog 84 [.slice ra re.length rc, .int .i64 i] (fun w => Rd En w (.slice ra re.length rc) re) [] (fun v _ => v = .int .i64 i1) := by
  refine fn_of Tryd.func84 rfl rfl rfl fun w0 hw => ?_
  have hil := (List.getElem?_eq_some_iff.1 hp.head.1).1
  have hsl := hw.sl
  have hbl := hsl.le
  refine c_seq fun _ hK1 => ?_
  refine c_region ?_
  refine o_step rfl (s_assign rfl) ?_
  refine o_nil ?_
  refine x_then (hK1 _ _ ?_)
  refine c_seq fun _ hK2 => ?_
  refine c_seq fun _ hK3 => ?_
  refine c_region ?_
  refine o_step rfl (s_move rfl) ?_
  refine o_callP (shaped_fn ra rc re hre) rfl rfl rfl (fun _ st => (RdK.old0 hw).out _ st) (fun v8 hv8 => ?_)
  rw [hsb] at hv8
  subst hv8
  refine o_step rfl (s_not rfl) ?_
  refine o_step rfl (s_move rfl) ?_
  refine o_yes rfl rfl ?_
  refine o_step rfl (s_move rfl) ?_
  refine o_yes rfl rfl ?_
  refine o_step rfl (s_lss_f rfl rfl (by omega)) ?_
  refine o_step rfl (s_pick_f rfl rfl) ?_
  refine o_step rfl (s_move rfl) ?_
  refine o_yes rfl rfl ?_
  refine o_step rfl (s_move rfl) ?_
  refine o_yes rfl rfl ?_
  refine o_step rfl (s_move rfl) ?_
  refine o_yes rfl rfl ?_
  refine o_step rfl (s_len rfl) ?_
  refine o_yes rfl rfl ?_
  refine o_step rfl (s_geq_f rfl rfl (by omega)) ?_
  refine o_step rfl (s_pick_f rfl rfl) ?_
  refine o_nil ?_
  refine x_then (hK3 _ _ ?_)
  refine c_false rfl ?_
  refine c_skip ?_
  refine x_then (hK2 _ _ ?_)
  refine c_seq fun _ hK4 => ?_
  refine c_region ?_
  refine o_step rfl (s_move rfl) ?_
  refine o_step rfl (s_move rfl) ?_
  refine o_callP (weigh_fn (ks.size + 1) x ks (Nat.lt_succ_self _) ra rc re i i1 hre hp) rfl rfl rfl (fun _ st => (RdK.old0 hw).out _ st) (fun v23 hv23 => ?_)
  subst hv23
  refine o_step rfl (s_move rfl) ?_
  refine o_step rfl (s_extract rfl rfl) ?_
  refine o_step rfl (s_extract rfl rfl) ?_
  refine o_step rfl (s_assign rfl) ?_
  refine o_step rfl (s_assign rfl) ?_
  refine o_nil ?_
  refine x_then (hK4 _ _ ?_)
  refine c_seq fun _ hK5 => ?_
  refine c_region ?_
  refine o_step rfl (s_move rfl) ?_
  refine o_step rfl (s_assign rfl) ?_
  refine o_nil ?_
  refine x_then (hK5 _ _ ?_)
  refine c_ret ?_
  refine ?_
  exact x_ret rfl (.tmp rfl (.nil)) (rfl)
set_option maxHeartbeats 1000000 in
theorem repO_fn (y : Nd) (js : F) (ih : PartC Tryd.prog y js) (hwf : (F.nd y js .nil).wf) (bx : Nat) (ra : Option Addr) (rc : Nat) (re : List Nd) (i i1 : Nat) (X : Plc) (S : Hp) (hP : PlS bx ra rc re.length X S) (hp : Part re (.nd y js .nil) i i1) (hsb : shapedB re = true) (hre : ∀ x ∈ re, -128 ≤ x.op ∧ x.op < 128) (mn : Nat) (mx : Int) (hmn : mn ≤ 255) (hmx : mx = -1 ∨ ((mn : Int) ≤ mx ∧ mx ≤ 255)) (hc : X.sets.length + (if mx < 0 then mn + 1 else mx.toNat) * cnt1 y js ≤ 20) (hxl : X.fol.length = X.sets.length) : HL.Fn Tryd.prog 81 [.pointer (some ⟨bx, 0, none⟩), .int .i64 i, .int .i64 mn, .int .i64 mx] (fun w => Rd En w (.slice ra re.length rc) re ∧ Apart (keys S) (.slice ra re.length rc)) S (fun v S' => ∃ S2, HSub S' S2 ∧ v = .agg (Ep4 ((repM (partM y js) mn mx X).1)).toArray ∧ PlS bx ra rc re.length (repM (partM y js) mn mx X).2 S2) := by
  refine fn_of Tryd.func81 rfl rfl rfl fun w0 hw => ?_
  have hA := part_adds hwf
  have hL := iter_len hA X hxl
  have hmk : ∀ k, k ≤ mn → k * cnt1 y js ≤ mn * cnt1 y js := fun k hk => Nat.mul_le_mul_right _ hk
  have hmc : mn * cnt1 y js ≤ (if mx < 0 then mn + 1 else mx.toNat) * cnt1 y js := Nat.mul_le_mul_right _ (by split <;> omega)
  refine c_seq fun _ hK1 => ?_
  refine c_region ?_
  refine o_alloc (l := Ep4 zeroP) (by rfl) rfl fun b8 => ?_
  refine o_nil ?_
  refine x_then (hK1 _ _ ?_)
  refine c_seq fun _ hK2 => ?_
  refine c_region ?_
  refine o_callP (nothing_fn) rfl rfl rfl (fun _ _ => trivial) (fun v12 hv12 => ?_)
  subst hv12
  refine o_alloc (l := Ep4 zeroP) (by rfl) rfl fun b9 => ?_
  refine o_stW rfl rfl upA lnA lnA onA ?_
  refine o_nil ?_
  refine x_then (hK2 _ _ ?_)
  refine c_seq fun _ hK3 => ?_
  refine c_seq fun _ hK4 => ?_
  refine c_region ?_
  refine o_step rfl (s_move rfl) ?_
  refine o_step rfl (s_move rfl) ?_
  refine o_nil ?_
  refine x_then (hK4 _ _ ?_)
  refine c_block ?_
  refine c_loop2 (fun (k : Nat) (Sk : Hp) => k ≤ mn ∧ PlS bx ra rc re.length (iterM (fun c => catM c (partM y js)) k nothP X).2 Sk) (fun (k : Nat) (Sk : Hp) => [(14, .int .i64 k)]) [(0, _), (1, _), (2, _), (3, _), (8, _), (9, _), (13, _)] (fun (k : Nat) (Sk : Hp) => (b9, .cells (Ep4 ((iterM (fun c => catM c (partM y js)) k nothP X).1)).toArray 87 (0, 0)) :: (b8, .cells (Ep4 zeroP).toArray 87 (0, 0)) :: Sk) (fun (k : Nat) (Sk : Hp) => mn - k) 0 S ⟨Nat.zero_le _, hP⟩ sbA sbA hzB ?_
  rintro k Sk ⟨hk, hPk⟩
  obtain ⟨hl1, hl2⟩ := hL k
  have hmk1 := hmk k hk
  refine c_seq fun _ hK5 => ?_
  refine c_region ?_
  refine o_step rfl (s_lss rfl rfl) ?_
  refine o_nil ?_
  refine x_then (hK5 _ _ ?_)
  refine c_seq fun _ hK6 => ?_
  refine c_if rfl (fun hlt => ?_) (fun hlt => ?_)
  ·
   have hmk2 := hmk (k + 1) (by omega)
   rw [Nat.succ_mul] at hmk2
   refine c_skip ?_
   refine x_then (hK6 _ _ ?_)
   refine c_seq fun _ hK7 => ?_
   refine c_block ?_
   refine c_drawE ([(b9, .cells (Ep4 ((iterM (fun c => catM c (partM y js)) k nothP X).1)).toArray 87 (0, 0))]) (fun i => Nat.beq i 6) ?_
   refine e_pure 0 rfl (by kernel_rfl) (by kernel_rfl) (by kernel_rfl) rfl (s_move rfl) ?_
   refine e_take 1 rfl (by kernel_rfl) (by kernel_rfl) (by kernel_rfl) (by kernel_rfl) (fun _ _ => rfl) rfl hzB (s_ldB rfl (RdPK.cels (.own meA)) lnA) ?_
   refine e_pure 2 rfl (by kernel_rfl) (by kernel_rfl) (by kernel_rfl) rfl (s_move rfl) ?_
   refine e_pure 3 rfl (by kernel_rfl) (by kernel_rfl) (by kernel_rfl) rfl (s_move rfl) ?_
   refine e_one 4 rfl (by kernel_rfl) ?_
   refine o_call (ih bx ra rc re i i1 _ _ hPk hp hsb hre (by omega) (by omega)) rfl rfl rfl (pkA) (fun w st => ⟨(RdK.old hw.1 hw.2).out w st, St.apart_M st (by exact hiB) hw.1 hw.2 (by decide)⟩) (fun v20 S20 ⟨hv20, hP20⟩ => ?_)
   subst hv20
   have hq20 := (hA _ hl2)
   refine o_nil ?_
   refine x_oneS hzB ?_
   refine e_one 5 rfl (by kernel_rfl) ?_
   refine o_call (catS_fn bx ra rc re.length _ _ hP20 (iterM (fun c => catM c (partM y js)) k nothP X).1 _ (by omega)) rfl rfl rfl (pkA) (fun _ _ => trivial) (fun v21 S21 ⟨hv21, hP21⟩ => ?_)
   subst hv21
   refine o_nil ?_
   refine x_oneS hzB ?_
   refine e_one 6 rfl (by kernel_rfl) ?_
   refine o_stW rfl rfl upA lnA lnA onA ?_
   refine o_nil ?_
   refine x_oneL rfl ?_
   refine e_done (by kernel_rfl) ?_
   refine x_block ?_
   refine x_then (hK7 _ _ ?_)
   refine c_region ?_
   refine o_step rfl (s_add rfl rfl (by omega)) ?_
   refine o_step rfl (s_move rfl) ?_
   refine o_nil ?_
   rw [show catP (iterM (fun c => catM c (partM y js)) k nothP X).1 ((partM y js) (iterM (fun c => catM c (partM y js)) k nothP X).2).1 = (iterM (fun c => catM c (partM y js)) (k + 1) nothP X).1 by rw [iterM_succ]; rfl]
   exact x_then (x_inv (k + 1, _) ⟨by omega, by rw [iterM_succ]; exact hP21⟩ (by first | omega | (dsimp only; omega)) sbA hzB)
  ·
   obtain rfl : mn = k := by omega
   refine c_exit ?_
   refine x_then_exit ?_
   refine x_then_exit ?_
   refine x_block_exit ?_
   refine x_then (hK3 _ _ ?_)
   refine c_seq fun _ hK8 => ?_
   refine c_seq fun _ hK9 => ?_
   refine c_region ?_
   refine o_step rfl (s_move rfl) ?_
   by_cases hneg : mx < 0
   ·
    rw [if_pos hneg, Nat.succ_mul] at hc
    refine o_step rfl (step_cast (v' := .bool true) (s_lss rfl rfl) (by rw [decide_eq_true hneg])) ?_
    refine o_nil ?_
    refine x_then (hK9 _ _ ?_)
    refine c_true rfl ?_
    refine c_seq fun _ hK10 => ?_
    refine c_region ?_
    refine o_step rfl (s_move rfl) ?_
    refine o_step rfl (s_move rfl) ?_
    refine o_call (ih bx ra rc re i i1 _ _ hPk hp hsb hre (by omega) (by omega)) rfl rfl rfl (pkA) (fun w st => ⟨(RdK.old hw.1 hw.2).out w st, St.apart_M st (by exact hiB) hw.1 hw.2 (by decide)⟩) (fun v27 S27 ⟨hv27, hP27⟩ => ?_)
    subst hv27
    have hq27 := (hA _ hl2)
    refine o_alloc (l := Ep4 zeroP) (by rfl) rfl fun b10 => ?_
    refine o_stW rfl rfl upA lnA lnA onA ?_
    refine o_nil ?_
    refine x_then (hK10 _ _ ?_)
    refine c_seq fun _ hK11 => ?_
    refine c_region ?_
    refine o_step rfl (s_move rfl) ?_
    refine o_step rfl (s_field rfl rfl (by decide)) ?_
    refine o_step rfl (s_indexA rfl rfl (by omega)) ?_
    refine o_step rfl (s_ldB rfl ((RdPK.cels (RdPK.own' meA (Ep4_L (i := 0) (by omega) (by omega))))) lnA) ?_
    refine o_step rfl (s_field rfl rfl (by decide)) ?_
    refine o_step rfl (s_indexA rfl rfl (by omega)) ?_
    refine o_step rfl (s_ldB rfl ((RdPK.cels (RdPK.own' meA (Ep4_F (i := 0) (by omega) (by omega))))) lnA) ?_
    refine o_call (joinsS_fn bx ra rc re.length _ _ hP27 _ _ (by omega)) rfl rfl rfl (pkA) (fun _ _ => trivial) (fun v35 S35 hP35 => ?_)
    refine o_nil ?_
    refine x_then (hK11 _ _ ?_)
    refine c_seq fun _ hK12 => ?_
    refine c_drawE ([(b10, .cells (Ep4 (((partM y js) (iterM (fun c => catM c (partM y js)) mn nothP X).2).1)).toArray 87 (0, 0)), (b9, .cells (Ep4 ((iterM (fun c => catM c (partM y js)) mn nothP X).1)).toArray 87 (0, 0))]) (fun i => false) ?_
    refine e_pure 0 rfl (by kernel_rfl) (by kernel_rfl) (by kernel_rfl) rfl (s_move rfl) ?_
    refine e_take 1 rfl (by kernel_rfl) (by kernel_rfl) (by kernel_rfl) (by kernel_rfl) (fun _ _ => rfl) rfl hzB (s_ldB rfl (RdPK.cels (.own meA)) lnA) ?_
    refine e_take 3 rfl (by kernel_rfl) (by kernel_rfl) (by kernel_rfl) (by kernel_rfl) (fun _ _ => rfl) rfl hzB (s_ldB rfl (RdPK.cels (.own meA)) lnA) ?_
    refine e_one 2 rfl (by kernel_rfl) ?_
    refine o_callP (nothing_fn) rfl rfl rfl (fun _ _ => trivial) (fun v38 hv38 => ?_)
    subst hv38
    refine o_nil ?_
    refine x_oneS hzB ?_
    refine e_one 4 rfl (by kernel_rfl) ?_
    refine o_callP (alt_fn nothP ((partM y js) (iterM (fun c => catM c (partM y js)) mn nothP X).2).1) rfl rfl rfl (fun _ _ => trivial) (fun v40 hv40 => ?_)
    subst hv40
    refine o_nil ?_
    refine x_oneS hzB ?_
    refine e_one 5 rfl (by kernel_rfl) ?_
    refine o_call (catS_fn bx ra rc re.length _ _ hP35 (iterM (fun c => catM c (partM y js)) mn nothP X).1 _ (by simp only [Plc.join, joinF_len]; omega)) rfl rfl rfl (pkA) (fun _ _ => trivial) (fun v41 S41 ⟨hv41, hP41⟩ => ?_)
    subst hv41
    refine o_nil ?_
    refine x_oneS hzB ?_
    refine e_one 6 rfl (by kernel_rfl) ?_
    refine o_stW rfl rfl upA lnA lnA onA ?_
    refine o_nil ?_
    refine x_oneS hzB ?_
    refine e_done (by kernel_rfl) ?_
    refine x_then (hK12 _ _ ?_)
    refine c_ret ?_
    refine x_then_ret (?_)
    exact x_ret rfl (.agg inferInstance inferInstance rfl (RdPK.cels (.own meA)) lnA (.nil)) (⟨S41, by exact hzB, by rw [repM_neg hneg]; rfl, by rw [repM_neg hneg]; exact hP41⟩)
   ·
    rw [if_neg hneg] at hc
    have hsum : mn * cnt1 y js + (mx - mn).toNat * cnt1 y js = mx.toNat * cnt1 y js := by rw [← Nat.add_mul]; congr 1; omega
    refine o_step rfl (step_cast (v' := .bool false) (s_lss rfl rfl) (by rw [decide_eq_false hneg])) ?_
    refine o_nil ?_
    refine x_then (hK9 _ _ ?_)
    refine c_false rfl ?_
    refine c_skip ?_
    refine x_then (hK8 _ _ ?_)
    refine c_seq fun _ hK13 => ?_
    refine c_region ?_
    refine o_callP (nothing_fn) rfl rfl rfl (fun _ _ => trivial) (fun v42 hv42 => ?_)
    subst hv42
    refine o_alloc (l := Ep4 zeroP) (by rfl) rfl fun b11 => ?_
    refine o_stW rfl rfl upA lnA lnA onA ?_
    refine o_nil ?_
    refine x_then (hK13 _ _ ?_)
    refine c_seq fun _ hK14 => ?_
    refine c_seq fun _ hK15 => ?_
    refine c_region ?_
    refine o_step rfl (s_move rfl) ?_
    refine o_step rfl (s_move rfl) ?_
    refine o_step rfl (s_sub rfl rfl (by omega)) ?_
    refine o_step rfl (s_move rfl) ?_
    refine o_nil ?_
    refine x_then (hK15 _ _ ?_)
    refine c_block ?_
    refine c_loop2 (fun (k : Nat) (Sk : Hp) => k ≤ (mx - mn).toNat ∧ PlS bx ra rc re.length (iterM (moreM (partM y js)) k nothP (iterM (fun c => catM c (partM y js)) mn nothP X).2).2 Sk) (fun (k : Nat) (Sk : Hp) => [(46, .int .i64 k)]) [(0, _), (1, _), (8, _), (9, _), (11, _), (45, _)] (fun (k : Nat) (Sk : Hp) => (b11, .cells (Ep4 ((iterM (moreM (partM y js)) k nothP (iterM (fun c => catM c (partM y js)) mn nothP X).2).1)).toArray 87 (0, 0)) :: (b9, .cells (Ep4 ((iterM (fun c => catM c (partM y js)) mn nothP X).1)).toArray 87 (0, 0)) :: (b8, .cells (Ep4 zeroP).toArray 87 (0, 0)) :: Sk) (fun (k : Nat) (Sk : Hp) => (mx - mn).toNat - k) 0 Sk ⟨Nat.zero_le _, hPk⟩ sbA sbA hzB ?_
    rintro k Sk ⟨hk, hPk⟩
    obtain ⟨hl3, hl4⟩ := more_len hA (iterM (fun c => catM c (partM y js)) mn nothP X).2 hl2 k
    have hmk1 : k * cnt1 y js ≤ (mx - mn).toNat * cnt1 y js := Nat.mul_le_mul_right _ hk
    refine c_seq fun _ hK16 => ?_
    refine c_region ?_
    refine o_step rfl (s_lss rfl rfl) ?_
    refine o_nil ?_
    refine x_then (hK16 _ _ ?_)
    refine c_seq fun _ hK17 => ?_
    refine c_if rfl (fun hlt2 => ?_) (fun hlt2 => ?_)
    ·
     have hmk2 := mul_lt (n := cnt1 y js) (show k < (mx - mn).toNat by omega)
     refine c_skip ?_
     refine x_then (hK17 _ _ ?_)
     refine c_seq fun _ hK18 => ?_
     refine c_block ?_
     refine c_drawE ([(b11, .cells (Ep4 ((iterM (moreM (partM y js)) k nothP (iterM (fun c => catM c (partM y js)) mn nothP X).2).1)).toArray 87 (0, 0))]) (fun i => Nat.beq i 8) ?_
     refine e_pure 1 rfl (by kernel_rfl) (by kernel_rfl) (by kernel_rfl) rfl (s_move rfl) ?_
     refine e_pure 2 rfl (by kernel_rfl) (by kernel_rfl) (by kernel_rfl) rfl (s_move rfl) ?_
     refine e_pure 3 rfl (by kernel_rfl) (by kernel_rfl) (by kernel_rfl) rfl (s_move rfl) ?_
     refine e_take 5 rfl (by kernel_rfl) (by kernel_rfl) (by kernel_rfl) (by kernel_rfl) (fun _ _ => rfl) rfl hzB (s_ldB rfl (RdPK.cels (.own meA)) lnA) ?_
     refine e_one 0 rfl (by kernel_rfl) ?_
     refine o_callP (nothing_fn) rfl rfl rfl (fun _ _ => trivial) (fun v48 hv48 => ?_)
     subst hv48
     refine o_nil ?_
     refine x_oneS hzB ?_
     refine e_one 4 rfl (by kernel_rfl) ?_
     refine o_call (ih bx ra rc re i i1 _ _ hPk hp hsb hre (by omega) (by omega)) rfl rfl rfl (pkA) (fun w st => ⟨(RdK.old hw.1 hw.2).out w st, St.apart_M st (by exact hiB) hw.1 hw.2 (by decide)⟩) (fun v52 S52 ⟨hv52, hP52⟩ => ?_)
     subst hv52
     have hq52 := (hA _ hl4)
     refine o_nil ?_
     refine x_oneS hzB ?_
     refine e_one 6 rfl (by kernel_rfl) ?_
     refine o_call (catS_fn bx ra rc re.length _ _ hP52 _ (iterM (moreM (partM y js)) k nothP (iterM (fun c => catM c (partM y js)) mn nothP X).2).1 (by omega)) rfl rfl rfl (pkA) (fun _ _ => trivial) (fun v54 S54 ⟨hv54, hP54⟩ => ?_)
     subst hv54
     refine o_nil ?_
     refine x_oneS hzB ?_
     refine e_one 7 rfl (by kernel_rfl) ?_
     refine o_callP (alt_fn nothP _) rfl rfl rfl (fun _ _ => trivial) (fun v55 hv55 => ?_)
     subst hv55
     refine o_nil ?_
     refine x_oneS hzB ?_
     refine e_one 8 rfl (by kernel_rfl) ?_
     refine o_stW rfl rfl upA lnA lnA onA ?_
     refine o_nil ?_
     refine x_oneL rfl ?_
     refine e_done (by kernel_rfl) ?_
     refine x_block ?_
     refine x_then (hK18 _ _ ?_)
     refine c_region ?_
     refine o_step rfl (s_add rfl rfl (by omega)) ?_
     refine o_step rfl (s_move rfl) ?_
     refine o_nil ?_
     rw [show altP nothP (catP ((partM y js) (iterM (moreM (partM y js)) k nothP (iterM (fun c => catM c (partM y js)) mn nothP X).2).2).1 (iterM (moreM (partM y js)) k nothP (iterM (fun c => catM c (partM y js)) mn nothP X).2).1) = (iterM (moreM (partM y js)) (k + 1) nothP (iterM (fun c => catM c (partM y js)) mn nothP X).2).1 by rw [iterM_succ]; rfl]
     exact x_then (x_inv (k + 1, _) ⟨by omega, by rw [iterM_succ]; exact hP54⟩ (by first | omega | (dsimp only; omega)) sbA hzB)
    ·
     obtain rfl : k = (mx - mn).toNat := by omega
     refine c_exit ?_
     refine x_then_exit ?_
     refine x_then_exit ?_
     refine x_block_exit ?_
     refine x_then (hK14 _ _ ?_)
     refine c_seq fun _ hK19 => ?_
     refine c_region ?_
     refine o_step rfl (s_move rfl) ?_
     refine o_step rfl (s_ldB rfl (RdPK.cels (.own meA)) lnA) ?_
     refine o_step rfl (s_ldB rfl (RdPK.cels (.own meA)) lnA) ?_
     refine o_call (catS_fn bx ra rc re.length _ _ hPk (iterM (fun c => catM c (partM y js)) mn nothP X).1 (iterM (moreM (partM y js)) (mx - mn).toNat nothP (iterM (fun c => catM c (partM y js)) mn nothP X).2).1 (by omega)) rfl rfl rfl (pkA) (fun _ _ => trivial) (fun v60 S60 ⟨hv60, hP60⟩ => ?_)
     subst hv60
     refine o_stW rfl rfl upA lnA lnA onA ?_
     refine o_nil ?_
     refine x_then (hK19 _ _ ?_)
     refine c_ret ?_
     refine ?_
     exact x_ret rfl (.agg inferInstance inferInstance rfl (RdPK.cels (.own meA)) lnA (.nil)) (⟨S60, by exact hzB, by rw [repM_pos hneg]; rfl, by rw [repM_pos hneg]; exact hP60⟩)
theorem rep_fn (y : Nd) (js : F) (ih : PartC Tryd.prog y js) (hwf : (F.nd y js .nil).wf) (bx : Nat) (ra : Option Addr) (rc : Nat) (re : List Nd) (i i1 : Nat) (X : Plc) (S : Hp) (hP : PlS bx ra rc re.length X S) (hp : Part re (.nd y js .nil) i i1) (hsb : shapedB re = true) (hre : ∀ x ∈ re, -128 ≤ x.op ∧ x.op < 128) (mn : Nat) (mx : Int) (hmn : mn ≤ 255) (hmx : mx = -1 ∨ ((mn : Int) ≤ mx ∧ mx ≤ 255)) (hc : X.sets.length + (if mx < 0 then mn + 1 else mx.toNat) * cnt1 y js ≤ 20) (hxl : X.fol.length = X.sets.length) : HL.Fn Tryd.prog 81 [.pointer (some ⟨bx, 0, none⟩), .int .i64 i, .int .i64 mn, .int .i64 mx] (fun w => Rd En w (.slice ra re.length rc) re ∧ Apart (keys S) (.slice ra re.length rc)) S (fun v S' => v = .agg (Ep4 ((repM (partM y js) mn mx X).1)).toArray ∧ PlS bx ra rc re.length (repM (partM y js) mn mx X).2 S') :=
  HL.Fn.sub (repO_fn y js ih hwf bx ra rc re i i1 X S hP hp hsb hre mn mx hmn hmx hc hxl) fun v S' ⟨S2, h1, h2⟩ => ⟨S2, h1, h2⟩
end Go.Proofs.YtmompllplidphaaDoor
namespace Go.HL.Kl.Mc
open Go Go.HL Go.HL.Kl
noncomputable def mokB (m : List In) : Bool := @decide (MOk m) (Classical.propDecidable _)
/-- the first so many instructions are right -/
def MUp (m : List In) (q : Nat) : Prop := ∀ i t, i < q → m[i]? = some t → InOk (m.length - 1) t ∧ (t.op ≤ 3 → i + 1 < m.length)
/-- what an instruction of its kind should be -/
def wantI (t : In) : In := ⟨t.op, if t.op = 1 then t.set else 0, if t.op = 4 ∨ t.op = 5 then t.x else 0, if t.op = 5 then t.y else 0⟩
/-! forests, one behind the other -/
def F.app : F → F → F
  | .nil, g => g
  | .nd x ks r, g => .nd x ks (r.app g)
theorem F.num_app : ∀ f g : F, (f.app g).num = f.num + g.num
  | .nil, g => by simp [F.app, F.num]
  | .nd x ks r, g => by simp only [F.app, F.num, F.num_app r g]; omega
theorem F.flat_app : ∀ f g : F, (f.app g).flat = f.flat ++ g.flat
  | .nil, g => by simp [F.app, F.flat]
  | .nd x ks r, g => by simp [F.app, F.flat, F.flat_app r g]
theorem F.size_app : ∀ f g : F, (f.app g).size = f.size + g.size
  | .nil, g => by simp [F.app, F.size]
  | .nd x ks r, g => by simp only [F.app, F.size, F.size_app r g]; omega
theorem F.wf_app : ∀ {f g : F}, f.wf → g.wf → (f.app g).wf
  | .nil, g, _, h => h
  | .nd x ks r, g, ⟨a, b, c, d⟩, h => ⟨a, b, c, F.wf_app d h⟩
theorem Part.down {re : List Nd} {y : Nd} {js r : F} {p i' : Nat} (h : Part re (.nd y js r) p i') : Part re (js.app r) (p + 1) i' := by
  obtain ⟨_, h1, h2⟩ := h.head
  have hl := h.len
  simp only [F.size] at hl
  exact ⟨F.wf_app h1.wf h2.wf, by rw [h1.flat, h2.flat, F.flat_app, List.append_assoc], by rw [F.size_app]; omega, h.le⟩
theorem F.num_nil {f : F} (h : f.num = 0) : f = .nil := by
  cases f with
  | nil => rfl
  | nd x ks r => simp [F.num] at h
/-! lists of booleans -/
def bo0 (l : List Bool) (i : Nat) : Bool := l.getD i false
theorem bo0_get {l : List Bool} {i : Nat} (h : i < l.length) : l[i]? = some (bo0 l i) := by simp [bo0, h]
theorem bo0_true {l : List Bool} {i : Nat} : bo0 l i = true ↔ l[i]? = some true := by
  unfold bo0
  rw [List.getD_eq_getElem?_getD]
  cases l[i]? <;> simp
def orF (a b : List Bool) (i : Nat) : Bool := bo0 a i || bo0 b i
def orL (a b : List Bool) : List Bool := (List.range a.length).map (orF a b)
theorem orL_len (a b : List Bool) : (orL a b).length = a.length := by simp [orL]
theorem orL_get {a b : List Bool} {i : Nat} (h : i < a.length) : (orL a b)[i]? = some (orF a b i) := by
  unfold orL
  rw [List.getElem?_map, List.getElem?_range h]; rfl
/-- is there one of b that is not of a, among the first k? -/
def moreTo (a b : List Bool) (k : Nat) : Bool := (List.range k).any fun i => bo0 b i && !bo0 a i
def moreB (a b : List Bool) : Bool := moreTo a b a.length
theorem moreTo_succ {a b : List Bool} {k : Nat} : moreTo a b (k + 1) = (moreTo a b k || (bo0 b k && !bo0 a k)) := by simp [moreTo, List.range_succ]
theorem IsS.or {a b : List Bool} {N : Nat} {S T : Nat → Prop} (ha : IsS a N S) (hb : IsS b N T) : IsS (orL a b) N (fun q => S q ∨ T q) :=
  ⟨by rw [orL_len, ha.len], fun p hp => by
    rw [orL_get (by rw [ha.len]; omega), ← ha.get p hp, ← hb.get p hp, ← bo0_true, ← bo0_true]
    simp [orF]⟩
theorem IsS.no_more {a b : List Bool} {N : Nat} {S T : Nat → Prop} (ha : IsS a N S) (hb : IsS b N T) (h : moreB a b = false) : ∀ q, q ≤ N → T q → S q := fun q hq ht => by
  rw [← ha.get q hq, ← bo0_true]
  rw [← hb.get q hq, ← bo0_true] at ht
  have h1 := List.any_eq_false.1 h q (by rw [List.mem_range, ha.len]; omega)
  rw [ht] at h1
  simpa using h1
/-- how many are not in the set -/
def cf (l : List Bool) : Nat := (List.range l.length).countP fun i => !bo0 l i
theorem cf_le (l : List Bool) : cf l ≤ l.length := by
  have := List.countP_le_length (p := fun i => !bo0 l i) (l := List.range l.length)
  simpa [cf] using this
theorem countP_mono {p q : Nat → Bool} (h : ∀ i, p i = true → q i = true) : ∀ n, (List.range n).countP p ≤ (List.range n).countP q
  | 0 => by simp
  | n + 1 => by
    have := countP_mono h n
    have h1 := h n
    simp only [List.range_succ, List.countP_append, List.countP_singleton]
    cases hp : p n <;> cases hq : q n <;> simp_all <;> omega
theorem countP_lt {p q : Nat → Bool} (h : ∀ i, p i = true → q i = true) : ∀ n k, k < n → q k = true → p k = false → (List.range n).countP p < (List.range n).countP q
  | n + 1, k, hk, h1, h2 => by
    simp only [List.range_succ, List.countP_append, List.countP_singleton]
    by_cases e : k = n
    · subst e
      have := countP_mono h k
      rw [h1, h2]; simp; omega
    · have := countP_lt h n k (by omega) h1 h2
      have h3 := h n
      cases hp : p n <;> cases hq : q n <;> simp_all <;> omega
theorem cf_more {a b : List Bool} (h : moreB a b = true) : cf (orL a b) < cf a := by
  obtain ⟨i, hi, hb⟩ := List.any_eq_true.1 h
  rw [List.mem_range] at hi
  simp only [Bool.and_eq_true, Bool.not_eq_true'] at hb
  unfold cf
  rw [orL_len]
  have e : ∀ j, j < a.length → bo0 (orL a b) j = orF a b j := fun j hj => by
    have := orL_get (b := b) hj
    simp [bo0, this]
  have e2 : (List.range a.length).countP (fun i => !bo0 (orL a b) i) = (List.range a.length).countP (fun i => !orF a b i) := by
    apply List.countP_congr
    intro j hj
    rw [e j (List.mem_range.1 hj)]
  rw [e2]
  refine countP_lt (fun j hj => ?_) _ i hi (by simp [hb.2]) (by simp [orF, hb.1])
  simp only [orF, Bool.not_eq_true', Bool.or_eq_false_iff] at hj ⊢
  exact hj.1
/-! the sets of single nodes -/
structure SetP (w : List UInt8) (s : Cl) (fr : List Bool) (j : Nat) (out : List Bool) : Prop where
  len : out.length = w.length + 1
  get : ∀ q : Nat, out[q]? = some true ↔ ∃ p, p < j ∧ q = p + 1 ∧ fr[p]? = some true ∧ ∃ b, w[p]? = some b ∧ s.getLsbD b.toNat = true
theorem rep_no {n q : Nat} : ¬ (List.replicate n false)[q]? = some true := fun h => by
  have := List.mem_of_getElem? h
  simp at this
theorem IsS.none {N : Nat} : IsS (List.replicate (N + 1) false) N (fun _ => False) := ⟨by simp, fun p _ => ⟨fun h => absurd h rep_no, False.elim⟩⟩
theorem IsS.only {N k : Nat} (hk : k ≤ N) {v : Bool} {p : Prop} (hv : v = true ↔ p) : IsS ((List.replicate (N + 1) false).set k v) N (fun q => q = k ∧ p) := by
  refine ⟨by simp, fun q hq => ?_⟩
  by_cases e : k = q
  · subst e
    rw [List.getElem?_set_self (by simp; omega), Option.some.injEq, hv]
    exact ⟨fun h => ⟨rfl, h⟩, fun h => h.2⟩
  · rw [List.getElem?_set_ne e]
    exact ⟨fun h => absurd h rep_no, fun h => absurd h.1.symm e⟩
/-- one place -/
theorem IsS.one {N k : Nat} (hk : k ≤ N) : IsS ((List.replicate (N + 1) false).set k true) N (fun q => q = k) := (IsS.only hk (p := True) (by simp)).iff fun q _ => by simp
/-! answers that are read together with what was handed in -/
def OutP (N : Nat) (S : Nat → Prop) (vf : Value) (fr : List Bool) (v : Value) (S' : Hp) : Prop :=
  ∃ (a : Option Addr) (c : Nat) (l : List Bool), v = .slice a l.length c ∧ IsS l N S ∧ ∀ W : World, (∀ b o, (b, o) ∈ S' → W.heap[b]? = some o) → Rd Ebo W vf fr → Rd Ebo W v l
/-- the contract of over and of rounds -/
def OverC (P : Program) (fn : Nat) (w : List UInt8) (x : Nd) (ks : F) : Prop := ∀ (ra : Option Addr) (rc : Nat) (re : List Nd) (ta : Option Addr) (tc i i' : Nat) (fa : Option Addr) (fc : Nat) (fr : List Bool) (S : Nat → Prop),
  (∀ x ∈ re, -128 ≤ x.op ∧ x.op < 128) → (∀ x ∈ re, ¬ x.op = 8) → w.length ≤ 1000000 → Part re (.nd x ks .nil) i i' → IsS fr w.length S → (∀ p, S p → p ≤ w.length) →
  Fn P fn [.slice ra re.length rc, .int .i64 i, .slice ta w.length tc, .slice fa fr.length fc] (fun W => Rd En W (.slice ra re.length rc) re ∧ Rd Eb W (.slice ta w.length tc) w ∧ Rd Ebo W (.slice fa fr.length fc) fr) [] (OutP w.length (img (der1 w x ks) S) (.slice fa fr.length fc) fr)
/-- read, given a part of the heap and what was handed in -/
def RdC (vf : Value) (fr : List Bool) (v : Value) (l : List Bool) (S : Hp) : Prop := ∀ W : World, (∀ b o, (b, o) ∈ S → W.heap[b]? = some o) → Rd Ebo W vf fr → Rd Ebo W v l
theorem img_zero {D : Nat → Nat → Prop} {S : Nat → Prop} {q : Nat} : img (pow D 0) S q ↔ S q := ⟨fun ⟨p, h, e⟩ => by obtain rfl : p = q := e; exact h, fun h => ⟨q, h, rfl⟩⟩
theorem rounds_last {k : Nat} {x : Nd} {D : Nat → Nat → Prop} {S : Nat → Prop} (h0 : 0 ≤ x.mn) (hmx : x.mx = k) (q : Nat) : upTo D S x.mn.toNat k q ↔ img (rounds x D) S q := by
  rw [img_rounds h0]
  constructor
  · rintro ⟨j, h1, h2, h3⟩; exact ⟨j, h1, .inr (by omega), h3⟩
  · rintro ⟨j, h1, h2, h3⟩; exact ⟨j, h1, by omega, h3⟩
theorem img_cat {w : List UInt8} {y : Nd} {js r : F} {T : Nat → Prop} {p : Nat} : img (der w r false) (img (der1 w y js) T) p ↔ img (der w (.nd y js r) false) T p := by
  constructor
  · rintro ⟨t, ⟨u, h1, h2⟩, h3⟩; exact ⟨u, h1, der_cat.2 ⟨t, h2, h3⟩⟩
  · rintro ⟨u, h1, h2⟩; obtain ⟨t, h3, h4⟩ := der_cat.1 h2; exact ⟨t, ⟨u, h1, h3⟩, h4⟩
theorem img_nil {w : List UInt8} {T : Nat → Prop} {p : Nat} : img (der w .nil false) T p ↔ T p := ⟨fun ⟨u, h1, h2⟩ => by obtain rfl := der_nil.1 h2; exact h1, fun h => ⟨p, h, der_nil.2 rfl⟩⟩
theorem img_rep6 {w : List UInt8} {x : Nd} {ks : F} {T : Nat → Prop} {p : Nat} (h6 : x.op = 6) : img (der1 w x ks) T p ↔ img (rounds x (der w ks false)) T p := by
  simp only [img, der1_def, if_neg (show ¬ x.op = 1 by omega), if_neg (show ¬ x.op = 2 by omega), if_neg (show ¬ x.op = 3 by omega), if_neg (show ¬ x.op = 5 by omega), if_pos h6]
theorem grp_kid {x : Nd} {ks : F} (h : (F.nd x ks .nil).wf) (h7 : x.op = 7) : ∃ y js, ks = .nd y js .nil := by
  have h1 := h.1
  have h2 : (ks.num : Int) = x.kids := h.2.1
  simp only [ndOk, Bool.and_eq_true] at h1
  have h3 := h1.2
  rw [kidsOk, if_pos (.inr h7), decide_eq_true_eq] at h3
  cases ks with
  | nil => simp [F.num] at h2; omega
  | nd y js r =>
    cases r with
    | nil => exact ⟨y, js, rfl⟩
    | nd z a b => simp only [F.num] at h2; omega
end Go.HL.Kl.Mc
