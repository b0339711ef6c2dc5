/- Part of the proofs over this seat: see the text that holds the theorem. Conditions: each theorem bears its own. -/
import Derived.Test.YtiggliigookieaaKN4
import Derived.Test.YtiggliigookieaaKN1Z
import Derived.Test.YtiggliigookieaaM1Z
namespace Go.Proofs.Ytiggliigookieaa
open Go Go.HL Go.Proofs Go.HL.Kl Go.HL.Kl.Mc
set_option maxHeartbeats 1000000 in
theorem rWeigh_step (x : Nd) (ks : F) (ih : ∀ y ks1, ks1.size < ks.size → WeighC Try.prog 32 y ks1) (ra : Option Addr) (rc : Nat) (re : List Nd) (i i1 : Nat) (hre : ∀ x ∈ re, -128 ≤ x.op ∧ x.op < 128) (hp : Part re (.nd x ks .nil) i i1) : HL.Fn Try.prog 32 [.slice ra re.length rc, .int .i64 i] (fun w => Rd En w (.slice ra re.length rc) re) [] (fun v _ => v = .tuple #[.int .i64 (cut (F.nd x ks .nil).weight), .int .i64 i1]) := by
  refine fn_of Try.func32 rfl rfl rfl fun w0 hw => ?_
  have hsl := hw.sl
  have hbl := hsl.le
  obtain ⟨hx, hpk, hpn⟩ := hp.head
  have hii : i1 = i + 1 + ks.size := by simpa [F.size] using hpn.len
  have hile := hp.le
  have hok : ndOk x = true := hp.wf.1
  have hk0 := ndOk_kids hok
  have hkn : (ks.num : Int) = x.kids := hp.wf.2.1
  have hop := hre x (List.mem_of_getElem? hx)
  have hilt : i < re.length := (List.getElem?_eq_some_iff.1 hx).1
  have htl := times_le hok
  have htp := times_pos x
  have hns := F.num_le ks
  have hpkl := hpk.le
  rw [← hii] at hpk
  refine c_seq fun _ hK1 => ?_
  refine c_region ?_
  refine o_step rfl (s_assign rfl) ?_
  refine o_step rfl (s_assign rfl) ?_
  refine o_nil ?_
  refine x_then (hK1 _ _ ?_)
  refine c_seq fun _ hK2 => ?_
  refine c_region ?_
  refine o_step rfl (s_move rfl) ?_
  refine o_step rfl (s_move rfl) ?_
  refine o_step rfl (s_idx rfl rfl hsl (by omega)) ?_
  refine o_step rfl (s_ldB rfl ((RdK.old0 hw).lds i hx rfl) (by rfl)) ?_
  refine o_alloc (l := En zN) (by rw [En_zero]; rfl) rfl fun b6 => ?_
  refine o_stW rfl rfl upA lnA lnA onA ?_
  refine o_nil ?_
  refine x_then (hK2 _ _ ?_)
  refine c_seq fun _ hK3 => ?_
  refine c_region ?_
  refine o_step rfl (s_assign rfl) ?_
  refine o_nil ?_
  refine x_then (hK3 _ _ ?_)
  refine c_seq fun _ hK4 => ?_
  refine c_region ?_
  refine o_step rfl (s_move rfl) ?_
  refine o_step rfl (s_add rfl rfl (by omega)) ?_
  refine o_step rfl (s_assign rfl) ?_
  refine o_nil ?_
  refine x_then (hK4 _ _ ?_)
  refine c_seq fun _ hK5 => ?_
  refine c_seq fun _ hK6 => ?_
  refine c_region ?_
  refine o_step rfl (s_assign rfl) ?_
  refine o_nil ?_
  refine x_then (hK6 _ _ ?_)
  refine c_block ?_
  refine c_loop4 (fun (k : Nat) (to : Nat) (dw : Nat) (r : F) => k + r.num = ks.num ∧ Part re r to i1 ∧ dw + r.weight = ks.weight ∧ r.size ≤ ks.size) (fun (k : Nat) (to : Nat) (dw : Nat) (r : F) => [(9, .int .i64 k), (7, .int .i64 (cut dw)), (8, .int .i64 to)]) [(0, _), (4, _), (5, _), (6, _)] (fun (k : Nat) (to : Nat) (dw : Nat) (r : F) => [(b6, .cells (En x).toArray 51 (0, 0))]) (fun (k : Nat) (to : Nat) (dw : Nat) (r : F) => ks.num - k) 0 (i + 1) 0 ks ⟨by omega, hpk, by omega, Nat.le_refl _⟩ sbA sbA hzB ?_
  rintro k to dw r ⟨hkr, hpr, hdw, hrs⟩
  have hcl := cut_le dw
  refine c_seq fun _ hK7 => ?_
  refine c_seq fun _ hK8 => ?_
  refine c_region ?_
  refine o_step rfl (s_move rfl) ?_
  refine o_step rfl (s_field rfl rfl (by decide)) ?_
  refine o_step rfl (s_ld rfl (.own meA rfl)) ?_
  by_cases hkl : (k : Int) < x.kids
  ·
   obtain ⟨y, ks1, r1, rfl⟩ : ∃ y ks1 r1, r = F.nd y ks1 r1 := by cases r with | nil => simp [F.num] at hkr; omega | nd y a b => exact ⟨y, a, b, rfl⟩
   obtain ⟨hy, hpy, hpt⟩ := hpr.head
   have hpy1 : Part re (.nd y ks1 .nil) to (to + 1 + ks1.size) := hpr.one
   have hrs2 : ks1.size < ks.size := by simp only [F.size] at hrs; omega
   have hcy := cut_le (F.nd y ks1 .nil).weight
   have hpyl := hpy1.le
   refine o_step rfl (step_cast (v' := .bool true) (s_lss rfl rfl) (by rw [decide_eq_true (by omega)])) ?_
   refine o_nil ?_
   refine x_then (hK8 _ _ ?_)
   refine c_true rfl ?_
   refine c_skip ?_
   refine x_then (hK7 _ _ ?_)
   refine c_seq fun _ hK9 => ?_
   refine c_block ?_
   refine c_seq fun _ hK10 => ?_
   refine c_region ?_
   refine o_step rfl (s_move rfl) ?_
   refine o_step rfl (s_move rfl) ?_
   refine o_callP (ih y ks1 hrs2 ra rc re to (to + 1 + ks1.size) hre hpy1) rfl rfl rfl (fun w st => (RdK.old0 hw).out w st) (fun v28 hv28 => ?_)
   subst hv28
   refine o_step rfl (s_move rfl) ?_
   refine o_step rfl (s_extract rfl rfl) ?_
   refine o_step rfl (s_extract rfl rfl) ?_
   refine o_step rfl (s_assign rfl) ?_
   refine o_step rfl (s_assign rfl) ?_
   refine o_nil ?_
   refine x_then (hK10 _ _ ?_)
   refine c_seq fun _ hK11 => ?_
   refine c_region ?_
   refine o_step rfl (s_move rfl) ?_
   refine o_step rfl (s_move rfl) ?_
   refine o_step rfl (s_add rfl rfl (by omega)) ?_
   refine o_step rfl (step_cast (v' := .int .i64 (cut (dw + (F.nd y ks1 .nil).weight))) (s_min rfl rfl) (by rw [← cut_add]; unfold cut; congr 1; omega)) ?_
   refine o_step rfl (s_assign rfl) ?_
   refine o_nil ?_
   refine x_then (hK11 _ _ ?_)
   refine c_region ?_
   refine o_step rfl (s_move rfl) ?_
   refine o_step rfl (s_assign rfl) ?_
   refine o_nil ?_
   refine x_block ?_
   refine x_then (hK9 _ _ ?_)
   refine c_region ?_
   refine o_step rfl (s_move rfl) ?_
   refine o_step rfl (s_add rfl rfl (by omega)) ?_
   refine o_step rfl (s_assign rfl) ?_
   refine o_nil ?_
   exact x_then (x_inv (k + 1, to + 1 + ks1.size, dw + (F.nd y ks1 .nil).weight, r1) ⟨by simp only [F.num] at hkr; dsimp only; omega, hpt, by simp only [F.weight] at hdw ⊢; omega, by simp only [F.size] at hrs; dsimp only; omega⟩ (by first | omega | (dsimp only; omega)) sbA hzB)
  ·
   obtain rfl : r = F.nil := by cases r with | nil => rfl | nd y a b => simp only [F.num] at hkr; omega
   have hto : to = i1 := by have := hpr.len; simp [F.size] at this; omega
   obtain rfl : dw = ks.weight := by simpa [F.weight] using hdw
   subst hto
   refine o_step rfl (step_cast (v' := .bool false) (s_lss rfl rfl) (by rw [decide_eq_false (by omega)])) ?_
   refine o_nil ?_
   refine x_then (hK8 _ _ ?_)
   refine c_false rfl ?_
   refine c_exit ?_
   refine x_then_exit ?_
   refine x_then_exit ?_
   refine x_block_exit ?_
   refine x_then (hK5 _ _ ?_)
   refine c_seq fun _ hK12 => ?_
   refine c_region ?_
   refine o_step rfl (s_assign rfl) ?_
   refine o_nil ?_
   refine x_then (hK12 _ _ ?_)
   refine c_seq fun _ hK13 => ?_
   refine c_seq fun _ hK14 => ?_
   refine c_region ?_
   refine o_step rfl (s_field rfl rfl (by decide)) ?_
   refine o_step rfl (s_ld rfl (.own meA rfl)) ?_
   refine o_step rfl (s_convI rfl (by omega)) ?_
   by_cases h6 : x.op = 6
   ·
    have hrf := rep_flds hok h6
    refine o_step rfl (step_cast (v' := .bool true) (s_eql rfl rfl) (by rw [decide_eq_true (by omega)])) ?_
    refine o_nil ?_
    refine x_then (hK14 _ _ ?_)
    refine c_true rfl ?_
    refine c_seq fun _ hK15 => ?_
    refine c_region ?_
    refine o_step rfl (s_field rfl rfl (by decide)) ?_
    refine o_step rfl (s_ld rfl (.own meA rfl)) ?_
    refine o_step rfl (s_max rfl rfl) ?_
    refine o_step rfl (s_assign rfl) ?_
    refine o_nil ?_
    refine x_then (hK15 _ _ ?_)
    refine c_seq fun _ hK16 => ?_
    refine c_region ?_
    refine o_step rfl (s_field rfl rfl (by decide)) ?_
    refine o_step rfl (s_ld rfl (.own meA rfl)) ?_
    by_cases hmx : x.mx < 0
    ·
     have ht1 : (times x : Int) = x.mn + 1 := by rw [times, if_pos h6, if_pos hmx]; omega
     have hclw := cut_le ks.weight
     have hm1 : (times x : Int) * (cut ks.weight : Int) ≤ 4194560 := by rw [Int.mul_comm]; exact mul_leZ hclw htl
     have hm0 : 0 ≤ (times x : Int) * (cut ks.weight : Int) := mul_0Z _ _
     have hfin := cut_fin2 (t := times x) (a := ks.weight) htp
     rw [ht1] at hfin hm1 hm0
     refine o_step rfl (step_cast (v' := .bool true) (s_lss rfl rfl) (by rw [decide_eq_true (by omega)])) ?_
     refine o_nil ?_
     refine x_then (hK16 _ _ ?_)
     refine c_true rfl ?_
     refine c_region ?_
     refine o_step rfl (s_field rfl rfl (by decide)) ?_
     refine o_step rfl (s_ld rfl (.own meA rfl)) ?_
     refine o_step rfl (s_add rfl rfl (by omega)) ?_
     refine o_step rfl (s_assign rfl) ?_
     refine o_nil ?_
     refine x_then (hK13 _ _ ?_)
     refine c_seq fun _ hK17 => ?_
     refine c_region ?_
     refine o_step rfl (s_move rfl) ?_
     refine o_step rfl (s_move rfl) ?_
     refine o_step rfl (s_mul rfl rfl (by omega)) ?_
     refine o_step rfl (s_add rfl rfl (by omega)) ?_
     refine o_step rfl (step_cast (v' := .int .i64 (cut (1 + times x * ks.weight) : Nat)) (s_min rfl rfl) (congrArg (Value.int .i64) hfin)) ?_
     refine o_step rfl (s_move rfl) ?_
     refine o_step rfl (s_assign rfl) ?_
     refine o_step rfl (s_assign rfl) ?_
     refine o_nil ?_
     refine x_then (hK17 _ _ ?_)
     refine c_ret ?_
     refine ?_
     exact x_ret rfl (.tmp rfl (.tmp rfl (.nil))) ((by rw [weight_one]; rfl))
    ·
     have ht1 : (times x : Int) = max x.mx 1 := by rw [times, if_pos h6, if_neg hmx]; omega
     have hclw := cut_le ks.weight
     have hm1 : (times x : Int) * (cut ks.weight : Int) ≤ 4194560 := by rw [Int.mul_comm]; exact mul_leZ hclw htl
     have hm0 : 0 ≤ (times x : Int) * (cut ks.weight : Int) := mul_0Z _ _
     have hfin := cut_fin2 (t := times x) (a := ks.weight) htp
     rw [ht1] at hfin hm1 hm0
     refine o_step rfl (step_cast (v' := .bool false) (s_lss rfl rfl) (by rw [decide_eq_false (by omega)])) ?_
     refine o_nil ?_
     refine x_then (hK16 _ _ ?_)
     refine c_false rfl ?_
     refine c_skip ?_
     refine x_then (hK13 _ _ ?_)
     refine c_seq fun _ hK18 => ?_
     refine c_region ?_
     refine o_step rfl (s_move rfl) ?_
     refine o_step rfl (s_move rfl) ?_
     refine o_step rfl (s_mul rfl rfl (by omega)) ?_
     refine o_step rfl (s_add rfl rfl (by omega)) ?_
     refine o_step rfl (step_cast (v' := .int .i64 (cut (1 + times x * ks.weight) : Nat)) (s_min rfl rfl) (congrArg (Value.int .i64) hfin)) ?_
     refine o_step rfl (s_move rfl) ?_
     refine o_step rfl (s_assign rfl) ?_
     refine o_step rfl (s_assign rfl) ?_
     refine o_nil ?_
     refine x_then (hK18 _ _ ?_)
     refine c_ret ?_
     refine ?_
     exact x_ret rfl (.tmp rfl (.tmp rfl (.nil))) ((by rw [weight_one]; rfl))
   ·
    have ht1 : (times x : Int) = 1 := by rw [times, if_neg h6]; rfl
    have hclw := cut_le ks.weight
    have hm1 : (times x : Int) * (cut ks.weight : Int) ≤ 4194560 := by rw [Int.mul_comm]; exact mul_leZ hclw htl
    have hm0 : 0 ≤ (times x : Int) * (cut ks.weight : Int) := mul_0Z _ _
    have hfin := cut_fin2 (t := times x) (a := ks.weight) htp
    rw [ht1] at hfin hm1 hm0
    refine o_step rfl (step_cast (v' := .bool false) (s_eql rfl rfl) (by rw [decide_eq_false (by omega)])) ?_
    refine o_nil ?_
    refine x_then (hK14 _ _ ?_)
    refine c_false rfl ?_
    refine c_skip ?_
    refine x_then (hK13 _ _ ?_)
    refine c_seq fun _ hK19 => ?_
    refine c_region ?_
    refine o_step rfl (s_move rfl) ?_
    refine o_step rfl (s_move rfl) ?_
    refine o_step rfl (s_mul rfl rfl (by omega)) ?_
    refine o_step rfl (s_add rfl rfl (by omega)) ?_
    refine o_step rfl (step_cast (v' := .int .i64 (cut (1 + times x * ks.weight) : Nat)) (s_min rfl rfl) (congrArg (Value.int .i64) hfin)) ?_
    refine o_step rfl (s_move rfl) ?_
    refine o_step rfl (s_assign rfl) ?_
    refine o_step rfl (s_assign rfl) ?_
    refine o_nil ?_
    refine x_then (hK19 _ _ ?_)
    refine c_ret ?_
    refine ?_
    exact x_ret rfl (.tmp rfl (.tmp rfl (.nil))) ((by rw [weight_one]; rfl))

theorem weigh_fn : ∀ (n : Nat) (x : Nd) (ks : F), ks.size < n → WeighC Try.prog 38 x ks := by
  intro n
  induction n with
  | zero => intro x ks h; omega
  | succ n ih => exact fun x ks h ra rc re i i1 h1 h2 => weigh_step x ks (fun y ks1 hs => ih y ks1 (by omega)) ra rc re i i1 h1 h2

theorem rWeigh_fn : ∀ (n : Nat) (x : Nd) (ks : F), ks.size < n → WeighC Try.prog 32 x ks := by
  intro n
  induction n with
  | zero => intro x ks h; omega
  | succ n ih => exact fun x ks h ra rc re i i1 h1 h2 => rWeigh_step x ks (fun y ks1 hs => ih y ks1 (by omega)) ra rc re i i1 h1 h2

theorem shaped_fn (ra : Option Addr) (rc : Nat) (re : List Nd) (hre : ∀ x ∈ re, -128 ≤ x.op ∧ x.op < 128) : HL.Fn Try.prog 23 [.slice ra re.length rc] (fun w => Rd En w (.slice ra re.length rc) re) [] (fun v _ => v = .bool (shapedB re)) := by
  refine fn_of Try.func23 rfl rfl rfl fun w0 hw => ?_
  have hsl := hw.sl
  have hbl := hsl.le
  refine c_seq fun _ hK1 => ?_
  refine c_region ?_
  refine o_step rfl (s_assign rfl) ?_
  refine o_nil ?_
  refine x_then (hK1 _ _ ?_)
  refine c_seq fun _ hK2 => ?_
  refine c_region ?_
  refine o_step rfl (s_move rfl) ?_
  refine o_step rfl (s_build (cs := [_, _, _]) (vs := [_]) rfl rfl (.cons rfl rfl rfl rfl rfl (.nil))) ?_
  refine o_box rfl rfl rfl fun b8 => ?_
  refine o_step rfl (s_assign rfl) ?_
  refine o_nil ?_
  refine x_then (hK2 _ _ ?_)
  refine c_seq fun _ hK3 => ?_
  refine c_seq fun _ hK4 => ?_
  refine c_region ?_
  refine o_step rfl (s_move rfl) ?_
  refine o_call (node_fn 260 b8 ra rc re 0 0 0 none 0 [] [] hre rfl (Nat.zero_le _) (by decide) (by decide) .nil) rfl rfl rfl (by exact .one) (fun w st => ⟨(RdK.old0 hw).out w st, St.apart_M st (by exact HIn.one) hw (Apart.nil) (by decide)⟩) (fun v10 S10 hv10 => ?_)
  rcases hst : shN re 260 0 [] 0 with _ | ⟨j, enx⟩
  ·
   obtain rfl : v10 = .bool false := by rw [hst] at hv10; exact hv10
   have hN := shp_none hst
   refine o_step rfl (s_not rfl) ?_
   refine o_step rfl (s_move rfl) ?_
   refine o_no rfl rfl rfl rfl ?_
   refine o_no rfl rfl rfl rfl ?_
   refine o_no rfl rfl rfl rfl ?_
   refine o_no rfl rfl rfl rfl ?_
   refine o_no rfl rfl rfl rfl ?_
   refine o_no rfl rfl rfl rfl ?_
   refine o_no rfl rfl rfl rfl ?_
   refine o_step rfl (s_pick_t rfl rfl) ?_
   refine o_nil ?_
   refine x_then (hK4 _ _ ?_)
   refine c_true rfl ?_
   refine c_seq fun _ hK5 => ?_
   refine c_region ?_
   refine o_step rfl (s_assign rfl) ?_
   refine o_nil ?_
   refine x_then (hK5 _ _ ?_)
   refine c_ret ?_
   refine x_then_ret (?_)
   exact x_ret rfl (.tmp rfl (.nil)) ((congrArg Value.bool hN.symm))
  ·
   obtain ⟨hu10, ea3, ec3, Se3, rfl, hO3⟩ : v10 = .bool true ∧ ∃ ea3 ec3 Se3, S10 = LookB 81 b8 ra rc re j ea3 ec3 enx :: Se3 ∧ OwnS Ebo 1 4 (.slice ea3 enx.length ec3) enx Se3 := by rw [hst] at hv10; exact hv10
   subst hu10
   unfold LookB
   refine o_step rfl (s_not rfl) ?_
   refine o_step rfl (s_move rfl) ?_
   refine o_yes rfl rfl ?_
   refine o_step rfl (s_move rfl) ?_
   refine o_yes rfl rfl ?_
   refine o_step rfl (s_nil rfl) ?_
   refine o_yes rfl rfl ?_
   refine o_step rfl (s_field rfl rfl (by decide)) ?_
   refine o_yes rfl rfl ?_
   refine o_step rfl (s_ld rfl (.own meA rfl)) ?_
   refine o_yes rfl rfl ?_
   refine o_step rfl (s_move rfl) ?_
   refine o_yes rfl rfl ?_
   refine o_step rfl (s_len rfl) ?_
   refine o_yes rfl rfl ?_
   by_cases hj : j ≠ re.length
   ·
    have hN := shp_end hst hj
    refine o_step rfl (step_cast (v' := .bool true) (s_neq rfl rfl) (by rw [decide_eq_true (by omega)])) ?_
    refine o_step rfl (s_pick_f rfl rfl) ?_
    refine o_nil ?_
    refine x_then (hK4 _ _ ?_)
    refine c_true rfl ?_
    refine c_seq fun _ hK6 => ?_
    refine c_region ?_
    refine o_step rfl (s_assign rfl) ?_
    refine o_nil ?_
    refine x_then (hK6 _ _ ?_)
    refine c_ret ?_
    refine x_then_ret (?_)
    exact x_ret rfl (.tmp rfl (.nil)) ((congrArg Value.bool hN.symm))
   ·
    obtain rfl : j = re.length := Decidable.not_not.1 hj
    obtain ⟨x, ks, hpt, hdp, hshp⟩ := shp_tree hst
    refine o_step rfl (step_cast (v' := .bool false) (s_neq rfl rfl) (by rw [decide_eq_false (by omega)])) ?_
    refine o_step rfl (s_pick_f rfl rfl) ?_
    refine o_nil ?_
    refine x_then (hK4 _ _ ?_)
    refine c_false rfl ?_
    refine c_skip ?_
    refine x_then (hK3 _ _ ?_)
    refine c_seq fun _ hK7 => ?_
    refine c_region ?_
    refine o_step rfl (s_move rfl) ?_
    refine o_callP (weigh_fn (ks.size + 1) x ks (by omega) ra rc re 0 re.length hre hpt) rfl rfl rfl (fun w st => (RdK.old0 hw).out w st) (fun v23 hv23 => ?_)
    subst hv23
    refine o_step rfl (s_move rfl) ?_
    refine o_step rfl (s_extract rfl rfl) ?_
    refine o_step rfl (s_extract rfl rfl) ?_
    refine o_step rfl (s_assign rfl) ?_
    refine o_step rfl (s_assign rfl) ?_
    refine o_nil ?_
    refine x_then (hK7 _ _ ?_)
    refine c_seq fun _ hK8 => ?_
    refine c_region ?_
    refine o_step rfl (s_move rfl) ?_
    refine o_step rfl (s_leq rfl rfl) ?_
    refine o_step rfl (s_assign rfl) ?_
    refine o_nil ?_
    refine x_then (hK8 _ _ ?_)
    refine c_ret ?_
    refine ?_
    exact x_ret rfl (.tmp rfl (.nil)) ((congrArg Value.bool (by rw [hshp]; exact decide_eq_decide.2 (by omega))))

theorem rShaped_fn (ra : Option Addr) (rc : Nat) (re : List Nd) (hre : ∀ x ∈ re, -128 ≤ x.op ∧ x.op < 128) : HL.Fn Try.prog 20 [.slice ra re.length rc] (fun w => Rd En w (.slice ra re.length rc) re) [] (fun v _ => v = .bool (shapedB re)) := by
  refine fn_of Try.func20 rfl rfl rfl fun w0 hw => ?_
  have hsl := hw.sl
  have hbl := hsl.le
  refine c_seq fun _ hK1 => ?_
  refine c_region ?_
  refine o_step rfl (s_assign rfl) ?_
  refine o_nil ?_
  refine x_then (hK1 _ _ ?_)
  refine c_seq fun _ hK2 => ?_
  refine c_region ?_
  refine o_step rfl (s_move rfl) ?_
  refine o_step rfl (s_build (cs := [_, _, _]) (vs := [_]) rfl rfl (.cons rfl rfl rfl rfl rfl (.nil))) ?_
  refine o_box rfl rfl rfl fun b8 => ?_
  refine o_step rfl (s_assign rfl) ?_
  refine o_nil ?_
  refine x_then (hK2 _ _ ?_)
  refine c_seq fun _ hK3 => ?_
  refine c_seq fun _ hK4 => ?_
  refine c_region ?_
  refine o_step rfl (s_move rfl) ?_
  refine o_call (rNode_fn 260 b8 ra rc re 0 0 0 none 0 [] [] hre rfl (Nat.zero_le _) (by decide) (by decide) .nil) rfl rfl rfl (by exact .one) (fun w st => ⟨(RdK.old0 hw).out w st, St.apart_M st (by exact HIn.one) hw (Apart.nil) (by decide)⟩) (fun v10 S10 hv10 => ?_)
  rcases hst : shN re 260 0 [] 0 with _ | ⟨j, enx⟩
  ·
   obtain rfl : v10 = .bool false := by rw [hst] at hv10; exact hv10
   have hN := shp_none hst
   refine o_step rfl (s_not rfl) ?_
   refine o_step rfl (s_move rfl) ?_
   refine o_no rfl rfl rfl rfl ?_
   refine o_no rfl rfl rfl rfl ?_
   refine o_no rfl rfl rfl rfl ?_
   refine o_no rfl rfl rfl rfl ?_
   refine o_no rfl rfl rfl rfl ?_
   refine o_no rfl rfl rfl rfl ?_
   refine o_no rfl rfl rfl rfl ?_
   refine o_step rfl (s_pick_t rfl rfl) ?_
   refine o_nil ?_
   refine x_then (hK4 _ _ ?_)
   refine c_true rfl ?_
   refine c_seq fun _ hK5 => ?_
   refine c_region ?_
   refine o_step rfl (s_assign rfl) ?_
   refine o_nil ?_
   refine x_then (hK5 _ _ ?_)
   refine c_ret ?_
   refine x_then_ret (?_)
   exact x_ret rfl (.tmp rfl (.nil)) ((congrArg Value.bool hN.symm))
  ·
   obtain ⟨hu10, ea3, ec3, Se3, rfl, hO3⟩ : v10 = .bool true ∧ ∃ ea3 ec3 Se3, S10 = LookB 72 b8 ra rc re j ea3 ec3 enx :: Se3 ∧ OwnS Ebo 1 4 (.slice ea3 enx.length ec3) enx Se3 := by rw [hst] at hv10; exact hv10
   subst hu10
   unfold LookB
   refine o_step rfl (s_not rfl) ?_
   refine o_step rfl (s_move rfl) ?_
   refine o_yes rfl rfl ?_
   refine o_step rfl (s_move rfl) ?_
   refine o_yes rfl rfl ?_
   refine o_step rfl (s_nil rfl) ?_
   refine o_yes rfl rfl ?_
   refine o_step rfl (s_field rfl rfl (by decide)) ?_
   refine o_yes rfl rfl ?_
   refine o_step rfl (s_ld rfl (.own meA rfl)) ?_
   refine o_yes rfl rfl ?_
   refine o_step rfl (s_move rfl) ?_
   refine o_yes rfl rfl ?_
   refine o_step rfl (s_len rfl) ?_
   refine o_yes rfl rfl ?_
   by_cases hj : j ≠ re.length
   ·
    have hN := shp_end hst hj
    refine o_step rfl (step_cast (v' := .bool true) (s_neq rfl rfl) (by rw [decide_eq_true (by omega)])) ?_
    refine o_step rfl (s_pick_f rfl rfl) ?_
    refine o_nil ?_
    refine x_then (hK4 _ _ ?_)
    refine c_true rfl ?_
    refine c_seq fun _ hK6 => ?_
    refine c_region ?_
    refine o_step rfl (s_assign rfl) ?_
    refine o_nil ?_
    refine x_then (hK6 _ _ ?_)
    refine c_ret ?_
    refine x_then_ret (?_)
    exact x_ret rfl (.tmp rfl (.nil)) ((congrArg Value.bool hN.symm))
   ·
    obtain rfl : j = re.length := Decidable.not_not.1 hj
    obtain ⟨x, ks, hpt, hdp, hshp⟩ := shp_tree hst
    refine o_step rfl (step_cast (v' := .bool false) (s_neq rfl rfl) (by rw [decide_eq_false (by omega)])) ?_
    refine o_step rfl (s_pick_f rfl rfl) ?_
    refine o_nil ?_
    refine x_then (hK4 _ _ ?_)
    refine c_false rfl ?_
    refine c_skip ?_
    refine x_then (hK3 _ _ ?_)
    refine c_seq fun _ hK7 => ?_
    refine c_region ?_
    refine o_step rfl (s_move rfl) ?_
    refine o_callP (rWeigh_fn (ks.size + 1) x ks (by omega) ra rc re 0 re.length hre hpt) rfl rfl rfl (fun w st => (RdK.old0 hw).out w st) (fun v23 hv23 => ?_)
    subst hv23
    refine o_step rfl (s_move rfl) ?_
    refine o_step rfl (s_extract rfl rfl) ?_
    refine o_step rfl (s_extract rfl rfl) ?_
    refine o_step rfl (s_assign rfl) ?_
    refine o_step rfl (s_assign rfl) ?_
    refine o_nil ?_
    refine x_then (hK7 _ _ ?_)
    refine c_seq fun _ hK8 => ?_
    refine c_region ?_
    refine o_step rfl (s_move rfl) ?_
    refine o_step rfl (s_leq rfl rfl) ?_
    refine o_step rfl (s_assign rfl) ?_
    refine o_nil ?_
    refine x_then (hK8 _ _ ?_)
    refine c_ret ?_
    refine ?_
    exact x_ret rfl (.tmp rfl (.nil)) ((congrArg Value.bool (by rw [hshp]; exact decide_eq_decide.2 (by omega))))

theorem refs_fn (ra : Option Addr) (rc : Nat) (re : List Nd) (hre : ∀ x ∈ re, -128 ≤ x.op ∧ x.op < 128) : HL.Fn Try.prog 24 [.slice ra re.length rc] (fun w => Rd En w (.slice ra re.length rc) re) [] (fun v _ => v = .bool (refsB re)) := by
  refine fn_of Try.func24 rfl rfl rfl fun w0 hw => ?_
  have hsl := hw.sl
  have hbl := hsl.le
  refine c_seq fun _ hK1 => ?_
  refine c_region ?_
  refine o_step rfl (s_assign rfl) ?_
  refine o_nil ?_
  refine x_then (hK1 _ _ ?_)
  refine c_seq fun _ hK2 => ?_
  refine c_seq fun _ hK3 => ?_
  refine c_region ?_
  refine o_step rfl (s_move rfl) ?_
  refine o_callP (shaped_fn ra rc re hre) rfl rfl rfl (fun w st => (RdK.old0 hw).out w st) (fun v6 hv6 => ?_)
  subst hv6
  cases hs : shapedB re
  ·
   refine o_nil ?_
   refine x_then (hK3 _ _ ?_)
   refine c_false rfl ?_
   refine c_skip ?_
   refine x_then (hK2 _ _ ?_)
   refine c_seq fun _ hK4 => ?_
   refine c_region ?_
   refine o_step rfl (s_assign rfl) ?_
   refine o_nil ?_
   refine x_then (hK4 _ _ ?_)
   refine c_ret ?_
   refine ?_
   exact x_ret rfl (.tmp rfl (.nil)) ((congrArg Value.bool (refs_shp hs).symm))
  ·
   refine o_nil ?_
   refine x_then (hK3 _ _ ?_)
   refine c_true rfl ?_
   refine c_seq fun _ hK5 => ?_
   refine c_region ?_
   refine o_step rfl (s_move rfl) ?_
   refine o_step rfl (s_len rfl) ?_
   refine o_step rfl (s_move rfl) ?_
   refine o_nil ?_
   refine x_then (hK5 _ _ ?_)
   refine c_block ?_
   -- not carried: 2
   refine c_loopB (fun (j : Nat) => j ≤ re.length ∧ ∀ q (x : Nd), q < j → re[q]? = some x → ¬ x.op = 8) (fun (j : Nat) => [(9, .int .i64 j)]) [(7, _), (8, _)] (fun (j : Nat) => []) (fun (j : Nat) => re.length - j) 0 ⟨by omega, fun q x h => by omega⟩ sbA sbA hzB ?_
   rintro j ⟨hj, hjn⟩
   refine c_seq fun _ hK6 => ?_
   refine c_region ?_
   by_cases hjl : j < re.length
   ·
    obtain ⟨x, hx⟩ : ∃ x, re[j]? = some x := ⟨_, List.getElem?_eq_getElem hjl⟩
    refine o_step rfl (step_cast (v' := .bool true) (s_lss rfl rfl) (by rw [decide_eq_true (by omega)])) ?_
    refine o_nil ?_
    refine x_then (hK6 _ _ ?_)
    refine c_seq fun _ hK7 => ?_
    refine c_true rfl ?_
    refine c_skip ?_
    refine x_then (hK7 _ _ ?_)
    refine c_seq fun _ hK8 => ?_
    refine c_block ?_
    refine c_seq fun _ hK9 => ?_
    refine c_region ?_
    refine o_step rfl (s_idx rfl rfl hsl (by omega)) ?_
    refine o_step rfl (s_ldB rfl ((RdK.old0 hw).lds j hx rfl) (by rfl)) ?_
    refine o_alloc (l := En zN) (by rw [En_zero]; rfl) rfl fun b4 => ?_
    refine o_stW rfl rfl upA lnA lnA onA ?_
    refine o_nil ?_
    refine x_then (hK9 _ _ ?_)
    refine c_seq fun _ hK10 => ?_
    refine c_region ?_
    refine o_step rfl (s_field rfl rfl (by decide)) ?_
    refine o_step rfl (s_ld rfl (.own meA rfl)) ?_
    by_cases h8 : x.op = 8
    ·
     refine o_step rfl (step_cast (v' := .bool true) (s_eql rfl rfl) (by rw [decide_eq_true h8])) ?_
     refine o_nil ?_
     refine x_then (hK10 _ _ ?_)
     refine c_true rfl ?_
     refine c_seq fun _ hK11 => ?_
     refine c_region ?_
     refine o_step rfl (s_assign rfl) ?_
     refine o_nil ?_
     refine x_then (hK11 _ _ ?_)
     refine c_ret ?_
     refine x_block_ret (x_then_ret (x_then_ret (x_block_ret (x_then_ret (?_)))))
     exact x_ret rfl (.tmp rfl (.nil)) ((congrArg Value.bool (refs_yes hs (List.mem_of_getElem? hx) h8).symm))
    ·
     refine o_step rfl (step_cast (v' := .bool false) (s_eql rfl rfl) (by rw [decide_eq_false h8])) ?_
     refine o_nil ?_
     refine x_then (hK10 _ _ ?_)
     refine c_false rfl ?_
     refine c_skip ?_
     refine x_block ?_
     refine x_then (hK8 _ _ ?_)
     refine c_region ?_
     refine o_step rfl (s_add rfl rfl (by omega)) ?_
     refine o_step rfl (s_move rfl) ?_
     refine o_nil ?_
     exact x_then (x_inv (j + 1) ⟨by omega, refs_step hjn hx h8⟩ (by first | omega | (dsimp only; omega)) sbA hzB)
   ·
    obtain rfl : j = re.length := by omega
    refine o_step rfl (step_cast (v' := .bool false) (s_lss rfl rfl) (by rw [decide_eq_false (by omega)])) ?_
    refine o_nil ?_
    refine x_then (hK6 _ _ ?_)
    refine c_seq fun _ hK12 => ?_
    refine c_false rfl ?_
    refine c_exit ?_
    refine x_then_exit ?_
    refine x_then_exit ?_
    refine x_block_exit ?_
    refine x_then (hK2 _ _ ?_)
    refine c_seq fun _ hK13 => ?_
    refine c_region ?_
    refine o_step rfl (s_assign rfl) ?_
    refine o_nil ?_
    refine x_then (hK13 _ _ ?_)
    refine c_ret ?_
    refine ?_
    exact x_ret rfl (.tmp rfl (.nil)) ((congrArg Value.bool (refs_no hjn).symm))

theorem rRefs_fn (ra : Option Addr) (rc : Nat) (re : List Nd) (hre : ∀ x ∈ re, -128 ≤ x.op ∧ x.op < 128) : HL.Fn Try.prog 21 [.slice ra re.length rc] (fun w => Rd En w (.slice ra re.length rc) re) [] (fun v _ => v = .bool (refsB re)) := by
  refine fn_of Try.func21 rfl rfl rfl fun w0 hw => ?_
  have hsl := hw.sl
  have hbl := hsl.le
  refine c_seq fun _ hK1 => ?_
  refine c_region ?_
  refine o_step rfl (s_assign rfl) ?_
  refine o_nil ?_
  refine x_then (hK1 _ _ ?_)
  refine c_seq fun _ hK2 => ?_
  refine c_seq fun _ hK3 => ?_
  refine c_region ?_
  refine o_step rfl (s_move rfl) ?_
  refine o_callP (rShaped_fn ra rc re hre) rfl rfl rfl (fun w st => (RdK.old0 hw).out w st) (fun v5 hv5 => ?_)
  subst hv5
  cases hs : shapedB re
  ·
   refine o_step rfl (s_not rfl) ?_
   refine o_nil ?_
   refine x_then (hK3 _ _ ?_)
   refine c_true rfl ?_
   refine c_seq fun _ hK4 => ?_
   refine c_region ?_
   refine o_step rfl (s_assign rfl) ?_
   refine o_nil ?_
   refine x_then (hK4 _ _ ?_)
   refine c_ret ?_
   refine x_then_ret (?_)
   exact x_ret rfl (.tmp rfl (.nil)) ((congrArg Value.bool (refs_shp hs).symm))
  ·
   refine o_step rfl (s_not rfl) ?_
   refine o_nil ?_
   refine x_then (hK3 _ _ ?_)
   refine c_false rfl ?_
   refine c_skip ?_
   refine x_then (hK2 _ _ ?_)
   refine c_seq fun _ hK5 => ?_
   refine c_seq fun _ hK6 => ?_
   refine c_region ?_
   refine o_step rfl (s_assign rfl) ?_
   refine o_nil ?_
   refine x_then (hK6 _ _ ?_)
   refine c_block ?_
   -- not carried: 2
   refine c_loopB (fun (j : Nat) => j ≤ re.length ∧ ∀ q (x : Nd), q < j → re[q]? = some x → ¬ x.op = 8) (fun (j : Nat) => [(3, .int .i64 j)]) [(0, _)] (fun (j : Nat) => []) (fun (j : Nat) => re.length - j) 0 ⟨by omega, fun q x h => by omega⟩ sbA sbA hzB ?_
   rintro j ⟨hj, hjn⟩
   refine c_seq fun _ hK7 => ?_
   refine c_seq fun _ hK8 => ?_
   refine c_region ?_
   refine o_step rfl (s_move rfl) ?_
   refine o_step rfl (s_move rfl) ?_
   refine o_step rfl (s_len rfl) ?_
   by_cases hjl : j < re.length
   ·
    obtain ⟨x, hx⟩ : ∃ x, re[j]? = some x := ⟨_, List.getElem?_eq_getElem hjl⟩
    have hop := hre x (List.mem_of_getElem? hx)
    refine o_step rfl (step_cast (v' := .bool true) (s_lss rfl rfl) (by rw [decide_eq_true (by omega)])) ?_
    refine o_nil ?_
    refine x_then (hK8 _ _ ?_)
    refine c_true rfl ?_
    refine c_skip ?_
    refine x_then (hK7 _ _ ?_)
    refine c_seq fun _ hK9 => ?_
    refine c_block ?_
    refine c_seq fun _ hK10 => ?_
    refine c_region ?_
    refine o_step rfl (s_move rfl) ?_
    refine o_step rfl (s_move rfl) ?_
    refine o_step rfl (s_idx rfl rfl hsl (by omega)) ?_
    refine o_step rfl (s_field rfl rfl (by decide)) ?_
    refine o_step rfl (s_ld rfl ((RdK.old0 hw).ld j 0 hx rfl (by decide) rfl)) ?_
    refine o_step rfl (s_convI rfl (by omega)) ?_
    by_cases h8 : x.op = 8
    ·
     refine o_step rfl (step_cast (v' := .bool true) (s_eql rfl rfl) (by rw [decide_eq_true (by omega)])) ?_
     refine o_nil ?_
     refine x_then (hK10 _ _ ?_)
     refine c_true rfl ?_
     refine c_seq fun _ hK11 => ?_
     refine c_region ?_
     refine o_step rfl (s_assign rfl) ?_
     refine o_nil ?_
     refine x_then (hK11 _ _ ?_)
     refine c_ret ?_
     refine x_block_ret (x_then_ret (x_then_ret (x_block_ret (x_then_ret (?_)))))
     exact x_ret rfl (.tmp rfl (.nil)) ((congrArg Value.bool (refs_yes hs (List.mem_of_getElem? hx) h8).symm))
    ·
     refine o_step rfl (step_cast (v' := .bool false) (s_eql rfl rfl) (by rw [decide_eq_false (by omega)])) ?_
     refine o_nil ?_
     refine x_then (hK10 _ _ ?_)
     refine c_false rfl ?_
     refine c_skip ?_
     refine x_block ?_
     refine x_then (hK9 _ _ ?_)
     refine c_region ?_
     refine o_step rfl (s_move rfl) ?_
     refine o_step rfl (s_add rfl rfl (by omega)) ?_
     refine o_step rfl (s_assign rfl) ?_
     refine o_nil ?_
     exact x_then (x_inv (j + 1) ⟨by omega, refs_step hjn hx h8⟩ (by first | omega | (dsimp only; omega)) sbA hzB)
   ·
    obtain rfl : j = re.length := by omega
    refine o_step rfl (step_cast (v' := .bool false) (s_lss rfl rfl) (by rw [decide_eq_false (by omega)])) ?_
    refine o_nil ?_
    refine x_then (hK8 _ _ ?_)
    refine c_false rfl ?_
    refine c_exit ?_
    refine x_then_exit ?_
    refine x_then_exit ?_
    refine x_block_exit ?_
    refine x_then (hK5 _ _ ?_)
    refine c_seq fun _ hK12 => ?_
    refine c_region ?_
    refine o_step rfl (s_assign rfl) ?_
    refine o_nil ?_
    refine x_then (hK12 _ _ ?_)
    refine c_ret ?_
    refine ?_
    exact x_ret rfl (.tmp rfl (.nil)) ((congrArg Value.bool (refs_no hjn).symm))
end Go.Proofs.Ytiggliigookieaa

/- Mathematics of captures: spans, what groups take, the best derivation. Conditions: none. -/
namespace Go.HL.Kl.Mc
open Go Go.HL Go.HL.Kl
structure Sp where
  fr : Int
  to : Int
  deriving DecidableEq
def Esp (s : Sp) : List Value := [.int .i64 s.fr, .int .i64 s.to]
instance : Enc Esp 2 := ⟨fun _ => rfl, fun x v hv => by
  simp only [Esp, List.mem_cons, List.not_mem_nil, or_false] at hv
  rcases hv with rfl | rfl <;> rfl⟩
def noS : Sp := ⟨-1, -1⟩
def fg1 (cs : List Sp) (x : Nd) : List Sp := if x.op = 7 then cs.set x.n.toNat noS else cs
def fgt (l : List Nd) (cs : List Sp) : List Sp := l.foldl fg1 cs
theorem fg1_len (cs : List Sp) (x : Nd) : (fg1 cs x).length = cs.length := by unfold fg1; split <;> simp
theorem fgt_len : ∀ (l : List Nd) (cs : List Sp), (fgt l cs).length = cs.length
  | [], cs => rfl
  | x :: l, cs => by
    show (fgt l (fg1 cs x)).length = _
    rw [fgt_len l, fg1_len]
/-- likewise, of the places from a up to j -/
def fgtTo (re : List Nd) (a j : Nat) (cs : List Sp) : List Sp := fgt ((re.drop a).take (j - a)) cs
theorem fgtTo_start {re : List Nd} {a : Nat} {cs : List Sp} : fgtTo re a a cs = cs := by simp [fgtTo, fgt]
theorem fgtTo_len {re : List Nd} {a j : Nat} {cs : List Sp} : (fgtTo re a j cs).length = cs.length := fgt_len _ _
theorem fgtTo_step {re : List Nd} {a j : Nat} {cs : List Sp} {x : Nd} (h : re[j]? = some x) (ha : a ≤ j) : fgtTo re a (j + 1) cs = fg1 (fgtTo re a j cs) x := by
  unfold fgtTo
  have e : (re.drop a).take (j + 1 - a) = (re.drop a).take (j - a) ++ [x] := by
    rw [show j + 1 - a = (j - a) + 1 by omega, List.take_add_one, List.getElem?_drop, show a + (j - a) = j by omega, h]; rfl
  rw [e]; simp [fgt, List.foldl_append]
theorem fgtTo_part {re : List Nd} {f : F} {a e : Nat} {cs : List Sp} (h : Part re f a e) : fgtTo re a e cs = fgt f.flat cs := by
  unfold fgtTo
  rw [h.flat, show e - a = f.flat.length by have := h.len; rw [F.flat_size]; omega, List.take_left' rfl]
open Classical in
noncomputable def grt (Q : Nat → Prop) (p q : Nat) : Nat := if h : ∃ m, Grt Q p q m then h.choose else 0
theorem Grt.uniq {Q : Nat → Prop} {p q m n : Nat} (h : Grt Q p q m) (h' : Grt Q p q n) : m = n := by
  rcases Nat.lt_trichotomy m n with e | e | e
  · exact absurd h'.2.2.1 (h.2.2.2 n e h'.2.1)
  · exact e
  · exact absurd h.2.2.1 (h'.2.2.2 m e h.2.1)
theorem grt_eq {Q : Nat → Prop} {p q m : Nat} (h : Grt Q p q m) : grt Q p q = m := by
  unfold grt
  have hx : ∃ m, Grt Q p q m := ⟨m, h⟩
  rw [dif_pos hx]
  exact hx.choose_spec.uniq h
theorem grt_ex {Q : Nat → Prop} {p q m : Nat} (h1 : p ≤ m) (h2 : m ≤ q) (h : Q m) : ∃ n, Grt Q p q n := by
  have key : ∀ k, k ≤ q - m → (∀ n, q - k < n → n ≤ q → ¬ Q n) → ∃ n, Grt Q p q n := by
    intro k hk
    induction hj : (q - m - k) generalizing k with
    | zero => intro hn; exact ⟨m, h1, h2, h, fun n a b => hn n (by omega) b⟩
    | succ j ih =>
      intro hn
      by_cases hq : Q (q - k)
      · exact ⟨q - k, by omega, by omega, hq, hn⟩
      · refine ih (k + 1) (by omega) (by omega) fun n a b => ?_
        by_cases e : n = q - k
        · subst e; exact hq
        · exact hn n (by omega) b
  exact key 0 (by omega) fun n a b => by omega
attribute [irreducible] grt
noncomputable def reps (x : Nd) (D : Nat → Nat → Prop) (B : Nat → Nat → List Sp → List Sp) (q : Nat) : Nat → Nat → Nat → List Sp → List Sp
  | 0, _, _, cs => cs
  | f + 1, r, p, cs => if dQ (∃ m, Grt (RQ x D r p q) p q m) = true then reps x D B q f (nxtR x r) (grt (RQ x D r p q) p q) (B p (grt (RQ x D r p q) p q) cs) else cs
theorem reps_go {x : Nd} {D : Nat → Nat → Prop} {B : Nat → Nat → List Sp → List Sp} {q f r p m : Nat} {cs : List Sp} (h : Grt (RQ x D r p q) p q m) : reps x D B q (f + 1) r p cs = reps x D B q f (nxtR x r) m (B p m cs) := by
  rw [reps, if_pos (dQ_t ⟨m, h⟩), grt_eq h]
theorem reps_end {x : Nd} {D : Nat → Nat → Prop} {B : Nat → Nat → List Sp → List Sp} {q f r p : Nat} {cs : List Sp} (h : ∀ m, p ≤ m → m ≤ q → ¬ RQ x D r p q m) : reps x D B q f r p cs = cs := by
  cases f with
  | zero => rfl
  | succ f => rw [reps, if_neg]; rw [dQ_f (fun ⟨m, hm⟩ => h m hm.1 hm.2.1 hm.2.2.1)]; simp
noncomputable def bst (w : List UInt8) : F → Bool → Nat → Nat → List Sp → List Sp
  | .nil, _, _, _, cs => cs
  | .nd x ks r, m, p, q, cs =>
    let one : Nat → Nat → List Sp → List Sp := fun p q cs =>
      if x.op = 7 then (bst w ks false p q (fgt ks.flat cs)).set x.n.toNat ⟨p, q⟩
      else if x.op = 5 then bst w ks true p q cs
      else if x.op = 4 then bst w ks false p q cs
      else if x.op = 6 then reps x (der w ks false) (fun p q cs => bst w ks false p q (fgt ks.flat cs)) q ((q - p) + max x.mn.toNat 1 + 1) 0 p cs
      else cs
    if m = true then (if dQ (der1 w x ks p q) = true then one p q cs else bst w r true p q cs)
    else bst w r false (grt (fun n => der1 w x ks p n ∧ der w r false n q) p q) q (one p (grt (fun n => der1 w x ks p n ∧ der w r false n q) p q) cs)
noncomputable def bst1 (w : List UInt8) (x : Nd) (ks : F) (p q : Nat) (cs : List Sp) : List Sp :=
  if x.op = 7 then (bst w ks false p q (fgt ks.flat cs)).set x.n.toNat ⟨p, q⟩
  else if x.op = 5 then bst w ks true p q cs
  else if x.op = 4 then bst w ks false p q cs
  else if x.op = 6 then reps x (der w ks false) (fun p q cs => bst w ks false p q (fgt ks.flat cs)) q ((q - p) + max x.mn.toNat 1 + 1) 0 p cs
  else cs
theorem bst_alt {w : List UInt8} {x : Nd} {ks r : F} {p q : Nat} {cs : List Sp} : bst w (.nd x ks r) true p q cs = if dQ (der1 w x ks p q) = true then bst1 w x ks p q cs else bst w r true p q cs := by
  conv => lhs; rw [bst]
  rfl
theorem bst_cat {w : List UInt8} {x : Nd} {ks r : F} {p q n : Nat} {cs : List Sp} (h : Grt (fun n => der1 w x ks p n ∧ der w r false n q) p q n) : bst w (.nd x ks r) false p q cs = bst w r false n q (bst1 w x ks p n cs) := by
  conv => lhs; rw [bst]
  rw [← grt_eq h]
  rfl
theorem bst_nil {w : List UInt8} {m : Bool} {p q : Nat} {cs : List Sp} : bst w .nil m p q cs = cs := by rw [bst]
theorem bst_one {w : List UInt8} {x : Nd} {ks : F} {p q : Nat} {cs : List Sp} (h : der1 w x ks p q) : bst w (.nd x ks .nil) false p q cs = bst1 w x ks p q cs := by
  have hg : Grt (fun n => der1 w x ks p n ∧ der w .nil false n q) p q q := ⟨der1_up _ _ h, Nat.le_refl _, ⟨h, der_nil.2 rfl⟩, fun n a b => by omega⟩
  rw [bst_cat hg, bst_nil]
theorem bst1_7 {w : List UInt8} {x : Nd} {ks : F} {p q : Nat} {cs : List Sp} (h : x.op = 7) : bst1 w x ks p q cs = (bst w ks false p q (fgt ks.flat cs)).set x.n.toNat ⟨p, q⟩ := by rw [bst1, if_pos h]
theorem bst1_5 {w : List UInt8} {x : Nd} {ks : F} {p q : Nat} {cs : List Sp} (h : x.op = 5) : bst1 w x ks p q cs = bst w ks true p q cs := by rw [bst1, if_neg (by omega), if_pos h]
theorem bst1_4 {w : List UInt8} {x : Nd} {ks : F} {p q : Nat} {cs : List Sp} (h : x.op = 4) : bst1 w x ks p q cs = bst w ks false p q cs := by rw [bst1, if_neg (by omega), if_neg (by omega), if_pos h]
theorem bst1_6 {w : List UInt8} {x : Nd} {ks : F} {p q : Nat} {cs : List Sp} (h : x.op = 6) : bst1 w x ks p q cs = reps x (der w ks false) (fun p q cs => bst w ks false p q (fgt ks.flat cs)) q ((q - p) + max x.mn.toNat 1 + 1) 0 p cs := by rw [bst1, if_neg (by omega), if_neg (by omega), if_neg (by omega), if_pos h]
theorem bst1_0 {w : List UInt8} {x : Nd} {ks : F} {p q : Nat} {cs : List Sp} (h : x.op ≤ 3) : bst1 w x ks p q cs = cs := by rw [bst1, if_neg (by omega), if_neg (by omega), if_neg (by omega), if_neg (by omega)]
theorem reps_len {x : Nd} {D : Nat → Nat → Prop} {B : Nat → Nat → List Sp → List Sp} {q : Nat} (hB : ∀ p q cs, (B p q cs).length = cs.length) : ∀ f r p cs, (reps x D B q f r p cs).length = cs.length
  | 0, r, p, cs => rfl
  | f + 1, r, p, cs => by
    rw [reps]; split
    · rw [reps_len hB f, hB]
    · rfl
theorem bst_len {w : List UInt8} : ∀ (f : F) (m : Bool) (p q : Nat) (cs : List Sp), (bst w f m p q cs).length = cs.length
  | .nil, m, p, q, cs => by rw [bst_nil]
  | .nd x ks r, m, p, q, cs => by
    have h1 : ∀ p q cs, (bst1 w x ks p q cs).length = cs.length := by
      intro p q cs
      unfold bst1
      split
      · rw [List.length_set, bst_len ks, fgt_len]
      split
      · rw [bst_len ks]
      split
      · rw [bst_len ks]
      split
      · rw [reps_len fun p q cs => by rw [bst_len ks, fgt_len]]
      · rfl
    cases m with
    | true =>
      rw [bst_alt]; split
      · exact h1 _ _ _
      · exact bst_len r _ _ _ _
    | false =>
      conv => lhs; rw [bst]
      show (bst w r false _ q (bst1 w x ks p _ cs)).length = _
      rw [bst_len r, h1]
theorem bst1_len {w : List UInt8} {x : Nd} {ks : F} {p q : Nat} {cs : List Sp} : (bst1 w x ks p q cs).length = cs.length := by
  have := bst_len (w := w) (.nd x ks .nil) true p q cs
  unfold bst1
  split
  · rw [List.length_set, bst_len ks, fgt_len]
  split
  · rw [bst_len ks]
  split
  · rw [bst_len ks]
  split
  · rw [reps_len fun p q cs => by rw [bst_len ks, fgt_len]]
  · rfl
/-- how many groups -/
def gcn (l : List Nd) : Nat := l.countP (fun x => decide (x.op = 7))
theorem gcn_take {re : List Nd} {j : Nat} {x : Nd} (h : re[j]? = some x) : gcn (re.take (j + 1)) = gcn (re.take j) + (if x.op = 7 then 1 else 0) := by
  rw [List.take_add_one, h]
  simp [gcn, List.countP_append, List.countP_cons]
theorem gcn_mono {re : List Nd} {i j : Nat} (h : i ≤ j) : gcn (re.take i) ≤ gcn (re.take j) := by
  unfold gcn
  exact List.Sublist.countP_le (List.take_sublist_take_left h)
def Numd (re : List Nd) (b i i' b' : Nat) : Prop := b' + gcn (re.take i) = b + gcn (re.take i') ∧ ∀ j x, i ≤ j → j < i' → re[j]? = some x → x.op = 7 → x.n + (gcn (re.take i) : Nat) = (b : Int) + (gcn (re.take j) : Nat) + 1
theorem kidsN_num {re : List Nd} {step : Nat → List Bool → Option (Nat × List Bool)} (hs : ∀ i en i' en', step i en = some (i', en') → i ≤ i' ∧ Numd re en.length i i' en'.length) :
    ∀ k i en i' en', kidsN step k i en = some (i', en') → i ≤ i' ∧ Numd re en.length i i' en'.length := by
  intro k
  induction k with
  | zero =>
    intro i en i' en' h
    simp only [kidsN, Option.some.injEq, Prod.mk.injEq] at h
    obtain ⟨rfl, rfl⟩ := h
    exact ⟨Nat.le_refl _, rfl, fun j x h1 h2 => by omega⟩
  | succ k ih =>
    intro i en i' en' h
    simp only [kidsN] at h
    split at h
    · cases h
    · rename_i j en1 hst
      obtain ⟨h1, h2, h3⟩ := hs _ _ _ _ hst
      obtain ⟨h4, h5, h6⟩ := ih _ _ _ _ h
      refine ⟨by omega, by omega, fun t x ht1 ht2 hx h7 => ?_⟩
      rcases Nat.lt_or_ge t j with e | e
      · exact h3 t x ht1 e hx h7
      · have := h6 t x e ht2 hx h7; omega
theorem shN_num {re : List Nd} : ∀ f i en g i' en', shN re f i en g = some (i', en') → i ≤ i' ∧ Numd re en.length i i' en'.length := by
  intro f
  induction f with
  | zero => intro i en g i' en' h; cases h
  | succ f ih =>
    intro i en g i' en' h
    simp only [shN] at h
    split at h
    · cases h
    · rename_i x hx
      split at h
      · split at h
        · cases h
        · rename_i en1 g1 hg
          split at h
          · cases h
          · rename_i i2 en2 hk
            simp only [Option.some.injEq, Prod.mk.injEq] at h
            obtain ⟨rfl, rfl⟩ := h
            obtain ⟨h1, h2, h3⟩ := kidsN_num (fun i en i' en' h => ih i en g1 i' en' h) _ _ _ _ _ hk
            have ht := gcn_take hx
            have he : en1.length = en.length + (if x.op = 7 then 1 else 0) ∧ (x.op = 7 → x.n = en.length + 1) := by
              unfold gate at hg
              split at hg
              · split at hg
                · cases hg; rename_i h8 _; exact ⟨by rw [if_neg (by omega)]; rfl, fun h => by omega⟩
                · cases hg
              split at hg
              · split at hg
                · cases hg; rename_i _ h7 hc; exact ⟨by rw [if_pos h7]; simp, fun _ => hc.1⟩
                · cases hg
              · cases hg; rename_i _ h7; exact ⟨by rw [if_neg h7]; rfl, fun h => absurd h h7⟩
            have hl : (if x.op = 7 then en2.set (x.n.toNat - 1) true else en2).length = en2.length := by split <;> simp
            refine ⟨by omega, by rw [hl]; omega, fun j y hj1 hj2 hy h7 => ?_⟩
            by_cases e : j = i
            · subst e
              rw [hx] at hy; cases hy
              have := he.2 h7; omega
            · have := h3 j y (by omega) hj2 hy h7
              omega
      · cases h
theorem grp_n {re : List Nd} (h : shapedB re = true) {j : Nat} {x : Nd} (hx : re[j]? = some x) (h7 : x.op = 7) : x.n = (gcn (re.take j) : Nat) + 1 ∧ x.n ≤ gcn re := by
  obtain ⟨⟨en, hsh⟩, _⟩ := shapedB_iff.1 h
  obtain ⟨_, h1, h2⟩ := shN_num _ _ _ _ _ _ hsh
  have hlt := (List.getElem?_eq_some_iff.1 hx).1
  have h3 := h2 j x (Nat.zero_le _) hlt hx h7
  have h4 := gcn_take hx
  have h5 : gcn (re.take (j + 1)) ≤ gcn re := by
    have := gcn_mono (re := re) (i := j + 1) (j := re.length) hlt
    rwa [List.take_length] at this
  simp [gcn] at h3
  rw [if_pos h7] at h4
  refine ⟨by simp only [gcn]; omega, ?_⟩
  simp only [gcn] at h4 h5 ⊢
  omega
end Go.HL.Kl.Mc

/- Contracts of the functions that tell what groups take. Conditions: none. -/
namespace Go.HL
open Go
theorem RdP.lt {w : World} {b off : Nat} {cs : List Value} (h : RdP w b off cs) (hc : cs ≠ []) : b < w.heap.size := by
  obtain ⟨u, hu⟩ : ∃ u, cs[0]? = some u := by
    cases cs with
    | nil => exact absurd rfl hc
    | cons a l => exact ⟨a, rfl⟩
  have h2 := h.get 0 u hu
  rcases Nat.lt_or_ge b w.heap.size with h' | h'
  · exact h'
  · simp [World.cell?, oblk, Array.getElem?_eq_none h'] at h2
theorem St.notin {w0 w : World} {M : List Nat} {H S : Hp} {b off : Nat} {cs : List Value} (st : St w0 w M H) (hin : HIn S H) (hr : RdP w0 b off cs) (hc : cs ≠ []) (hM : b ∉ M) : b ∉ keys S := by
  intro hm
  obtain ⟨⟨b', o⟩, hmS, hb⟩ := List.mem_map.1 hm
  have hb : b' = b := hb
  subst hb
  have := hr.lt hc
  rcases st.own _ _ (hin _ hmS) with h1 | h1
  · exact hM h1
  · omega
theorem hin_cons {b : Nat} {o : Obj} {S H : Hp} (h : (b, o) ∈ H) (hs : HIn S H) : HIn ((b, o) :: S) H := fun p hp => by
  rcases List.mem_cons.1 hp with rfl | hp
  · exact h
  · exact hs p hp
theorem hin_nil {H : Hp} : HIn [] H := fun _ h => by cases h
end Go.HL
namespace Go.HL.Kl.Mc
open Go Go.HL Go.HL.Kl AskE
theorem Env.sub {w0 w : World} {K : AskE} {M : List Nat} {H S : Hp} (h : Env w0 K M) (st : St w0 w M H) (hin : HIn S H) : Env w K (keys S) :=
  ⟨(RdPK.old (κ := ⟨0, [], w0, M⟩) (H := H) h.p1 h.n1).out w st, (RdPK.old (κ := ⟨0, [], w0, M⟩) (H := H) h.p2 h.n2).out w st, (RdPK.old (κ := ⟨0, [], w0, M⟩) (H := H) h.p3 h.n3).out w st, (RdPK.old (κ := ⟨0, [], w0, M⟩) (H := H) h.p4 h.n4).out w st,
    (RdK.old (κ := ⟨0, [], w0, M⟩) (H := H) h.d1 h.a1).out w st, (RdK.old (κ := ⟨0, [], w0, M⟩) (H := H) h.d2 h.a2).out w st, (RdK.old (κ := ⟨0, [], w0, M⟩) (H := H) h.d3 h.a3).out w st,
    st.notin hin h.p1 (by simp) h.n1, st.notin hin h.p2 (by simp) h.n2, st.notin hin h.p3 (by simp) h.n3, st.notin hin h.p4 (by simp) h.n4, st.apart_M hin h.d1 h.a1 (by decide), st.apart_M hin h.d2 h.a2 (by decide), by
      have e : K.ven = .slice (some ⟨K.bE, 0, none⟩) K.l.length K.re.length := by
        obtain ⟨a, c, e, _⟩ := h.d3.sl.out
        simp only [ven, Value.slice.injEq] at e ⊢
        exact ⟨trivial, e.2.1, trivial⟩
      have hd := h.d3
      have ha := h.a3
      rw [e] at hd ha ⊢
      exact st.apart_M hin hd ha (by decide)⟩
theorem St.ne {w0 w : World} {M : List Nat} {H S R : Hp} {b : Nat} {o : Obj} (st : St w0 w M H) (hpk : Pick H S R) (hm : (b, o) ∈ R) : b ∉ keys S := by
  intro h
  obtain ⟨⟨b', o'⟩, hmS, hb⟩ := List.mem_map.1 h
  exact (List.pairwise_append.1 (st.perm hpk.perm).nd).2.2 _ hmS _ hm hb
theorem Env.make {w0 w : World} {K : AskE} {H S R Se : Hp} {t1 t2 t3 t4 t5 : Nat} (st : St w0 w [] H) (hpk : Pick H S R) (h1 : Rd En w0 K.vre K.re) (h2 : Rd Eb w0 K.vtx K.tx) (hO : OwnS Eix 1 t5 K.ven K.l Se) (he : HIn Se R)
    (m1 : (K.bRe, .cells [K.vre].toArray t1 (0, 0)) ∈ R) (m2 : (K.bTx, .cells [K.vtx].toArray t2 (0, 0)) ∈ R) (m3 : (K.bA, .cells [pt K.bS].toArray t3 (0, 0)) ∈ R) (m4 : (K.bS, .cells K.cells.toArray t4 (0, 0)) ∈ R) : Env w K (keys S) := by
  have st' := st.perm hpk.perm
  have hi : ∀ {p}, p ∈ R → p ∈ S ++ R := fun h => List.mem_append.2 (.inr h)
  have hs : HIn S H := fun p h => hpk.perm.mem_iff.2 (List.mem_append.2 (.inl h))
  exact ⟨(RdPK.own (κ := ⟨0, [], w0, []⟩) (hi m1)).out w st', (RdPK.own (κ := ⟨0, [], w0, []⟩) (hi m2)).out w st', (RdPK.own (κ := ⟨0, [], w0, []⟩) (hi m3)).out w st', (RdPK.own (κ := ⟨0, [], w0, []⟩) (hi m4)).out w st',
    (RdK.old (κ := ⟨0, [], w0, []⟩) (H := H) h1 .nil).out w st, (RdK.old (κ := ⟨0, [], w0, []⟩) (H := H) h2 .nil).out w st, hO.rd fun b o h => st'.has _ _ (hi (he _ h)),
    St.ne st hpk m1, St.ne st hpk m2, St.ne st hpk m3, St.ne st hpk m4, st.apart_old hs h1 (by decide), st.apart_old hs h2 (by decide), st.apart hpk hO he⟩
structure AskG (T n : Nat) where
  (bE bM bA bS : Nat) (S : Hp)
  (h : OwnS Eix 1 T (.slice (some ⟨bE, 0, none⟩) n n) (List.replicate n 0) S)
/-- the captures of the best derivation -/
noncomputable def capsV (w : List UInt8) (re : List Nd) (x : Nd) (ks : F) (p q : Nat) : List Sp := (bst1 w x ks p q (List.replicate (gcn re + 1) noS)).set 0 ⟨p, q⟩
theorem capsV_len {w : List UInt8} {re : List Nd} {x : Nd} {ks : F} {p q : Nat} : (capsV w re x ks p q).length = gcn re + 1 := by rw [capsV, List.length_set, bst1_len, List.length_replicate]
theorem fill_rep {n j : Nat} {l : List Sp} (h : Tab.Fill (fun _ => noS) n j l) (hj : n ≤ j) : l = List.replicate n noS := by
  have := h.done hj
  rw [this]
  apply List.ext_getElem? 
  intro i
  by_cases hi : i < n
  · simp [List.getElem?_range hi, hi]
  · simp [hi]
/-- the groups' numbers have their places -/
def Slots (re : List Nd) (n : Nat) : Prop := ∀ y ∈ re, y.op = 7 → 0 ≤ y.n ∧ y.n.toNat < n
def TakeP (K : AskE) (T : Nat) (ca : Option Addr) (cc N : Nat) (cs : List Sp) (S' : Hp) : Prop := ∃ es c Sc, S' = (K.bM, mpO es c) :: Sc ∧ MapOk K.tx K.re es ∧ OwnS Esp 2 T (.slice ca N cc) cs Sc
def TakeK (P : Program) (K : AskE) (fn T : Nat) (x : Nd) (ks : F) : Prop := ∀ (i i1 p q : Nat) (es : List Me) (c : Nat) (ca : Option Addr) (cc N : Nat) (cs : List Sp) (Sc : Hp), Part K.re (.nd x ks .nil) i i1 → p ≤ q → q ≤ K.tx.length → der1 K.tx x ks p q → MapOk K.tx K.re es → cs.length = N → Slots K.re N → OwnS Esp 2 T (.slice ca N cc) cs Sc →
  Fn P fn [pt K.bS, .int .i64 i, .int .i64 p, .int .i64 q, .slice ca N cc] (fun W => Env W K (keys ((K.bM, mpO es c) :: Sc))) ((K.bM, mpO es c) :: Sc) (fun _ S' => TakeP K T ca cc N (bst1 K.tx x ks p q cs) S')
theorem slots_of {re : List Nd} (h : shapedB re = true) : Slots re (gcn re + 1) := fun y hy h7 => by
  obtain ⟨j, hj, rfl⟩ := List.getElem_of_mem hy
  have := grp_n h (List.getElem?_eq_getElem hj) h7
  omega
def CapsP (K : AskE) (T : Nat) (cs : List Sp) (v : Value) (S' : Hp) : Prop := ∃ es c a cc Sc, v = .slice a cs.length cc ∧ S' = (K.bM, mpO es c) :: Sc ∧ OwnS Esp 2 T (.slice a cs.length cc) cs Sc
end Go.HL.Kl.Mc
