/- Part of the proofs over this seat: see the text that holds the theorem. Conditions: each theorem bears its own. -/
import Derived.Test.YtiggliigookieaaKW16Z
import Derived.Test.YtiggliigookieaaKW10Z
import Derived.Test.YtiggliigookieaaMOZ
namespace Go.Proofs.Ytiggliigookieaa
open Go Go.HL Go.Proofs Go.HL.Kl Go.HL.Kl.Mc Go.HL.Kl.Mc.AskE
set_option maxHeartbeats 1000000 in
theorem better_fn (n : Nat) (ih : ∀ (T U : TF) (x y : Rw), T.sz < n → Sm T → Sm U → HL.Fn Try.prog 11 [.agg (Erw x).toArray, .agg (Erw y).toArray] (fun w => KidT w x T ∧ KidT w y U) [] (fun v _ => v = .int .i64 (bt T U))) (T U : TF) (x y : Rw) (hTn : T.sz ≤ n) (hT : Sm T) (hU : Sm U) : HL.Fn Try.prog 11 [.agg (Erw x).toArray, .agg (Erw y).toArray] (fun w => KidT w x T ∧ KidT w y U) [] (fun v _ => v = .int .i64 (bt T U)) := by
  refine fn_of Try.func11 rfl rfl rfl fun w0 hw => ?_
  obtain ⟨⟨xs, hxn, hxr, hxt⟩, ys, hyn, hyr, hyt⟩ := hw
  have hsx := hxr.sl
  have hsy := hyr.sl
  have hbx := hsx.le
  have hby := hsy.le
  rw [← hxn] at hsx
  rw [← hyn] at hsy
  refine c_seq fun _ hK1 => ?_
  refine c_region ?_
  refine o_box rfl rfl rfl fun b2 => ?_
  refine o_box rfl rfl rfl fun b3 => ?_
  refine o_step rfl (s_assign rfl) ?_
  refine o_nil ?_
  refine x_then (hK1 _ _ ?_)
  refine c_seq fun _ hK2 => ?_
  refine c_seq fun _ hK3 => ?_
  refine c_region ?_
  refine o_step rfl (s_assign rfl) ?_
  refine o_nil ?_
  refine x_then (hK3 _ _ ?_)
  refine c_block ?_
  -- not carried: 4
  refine c_loop3 (fun (k : Nat) (T2 : TF) (U2 : TF) => bt T U = bt T2 U2 ∧ k + T2.num = xs.length ∧ k + U2.num = ys.length ∧ Tie w0 T2 (xs.drop k) ∧ Tie w0 U2 (ys.drop k) ∧ T2.sz ≤ n ∧ Sm T2 ∧ Sm U2) (fun (k : Nat) (T2 : TF) (U2 : TF) => [(5, .int .i64 k)]) [(2, _), (3, _)] (fun (k : Nat) (T2 : TF) (U2 : TF) => [(b3, .cells (Erw y).toArray 35 (0, 0)), (b2, .cells (Erw x).toArray 35 (0, 0))]) (fun (k : Nat) (T2 : TF) (U2 : TF) => T2.num) 0 T U ⟨rfl, by rw [hxt.num]; omega, by rw [hyt.num]; omega, hxt, hyt, hTn, hT, hU⟩ sbA sbA hzB ?_
  rintro k T2 U2 ⟨hbt, hk1, hk2, ht1, ht2, hsz, hs1, hs2⟩
  refine c_seqJ (ι := Unit) (fun _g => ((k : Int) < x.kn ∨ (k : Int) < y.kn)) (fun _g => []) [(2, _), (3, _), (5, _)] (fun _g => [(b3, .cells (Erw y).toArray 35 (0, 0)), (b2, .cells (Erw x).toArray 35 (0, 0))]) sbA ?_ ?_
  ·
   rintro _g hor
   refine c_seq fun _ hK5 => ?_
   refine c_block ?_
   refine c_seq fun _ hK6 => ?_
   refine c_seq fun _ hK7 => ?_
   refine c_region ?_
   refine o_step rfl (s_move rfl) ?_
   refine o_step rfl (s_field rfl rfl (by decide)) ?_
   refine o_step rfl (s_ld rfl (.own meA rfl)) ?_
   refine o_step rfl (s_len rfl) ?_
   by_cases h3 : (k : Int) ≥ y.kn
   ·
    obtain rfl : U2 = TF.nil := by cases U2 with | nil => rfl | nd a p q b c => simp [TF.num] at hk2; omega
    obtain ⟨a, p, q, K1, T3, rfl⟩ : ∃ a p q K1 T3, T2 = TF.nd a p q K1 T3 := by cases T2 with | nil => simp [TF.num] at hk1; omega | nd a p q b c => exact ⟨a, p, q, b, c, rfl⟩
    refine o_step rfl (step_cast (v' := .bool true) (s_geq rfl rfl) (by rw [decide_eq_true (by omega)])) ?_
    refine o_nil ?_
    refine x_then (hK7 _ _ ?_)
    refine c_true rfl ?_
    refine c_seq fun _ hK8 => ?_
    refine c_region ?_
    refine o_step rfl (s_assign rfl) ?_
    refine o_nil ?_
    refine x_then (hK8 _ _ ?_)
    refine c_ret ?_
    refine x_then_ret (x_block_ret (x_then_ret (x_then_ret (x_block_ret (x_then_ret (?_))))))
    exact x_ret rfl (.tmp rfl (.nil)) ((congrArg (Value.int .i64) (by rw [hbt]; rfl)))
   ·
    obtain ⟨a2, p2, q2, K2, U3, rfl⟩ : ∃ a p q K1 T3, U2 = TF.nd a p q K1 T3 := by cases U2 with | nil => simp [TF.num] at hk2; omega | nd a p q b c => exact ⟨a, p, q, b, c, rfl⟩
    refine o_step rfl (step_cast (v' := .bool false) (s_geq rfl rfl) (by rw [decide_eq_false (by omega)])) ?_
    refine o_nil ?_
    refine x_then (hK7 _ _ ?_)
    refine c_false rfl ?_
    refine c_skip ?_
    refine x_then (hK6 _ _ ?_)
    refine c_seq fun _ hK9 => ?_
    refine c_seq fun _ hK10 => ?_
    refine c_region ?_
    refine o_step rfl (s_move rfl) ?_
    refine o_step rfl (s_field rfl rfl (by decide)) ?_
    refine o_step rfl (s_ld rfl (.own meA rfl)) ?_
    refine o_step rfl (s_len rfl) ?_
    by_cases h4 : (k : Int) ≥ x.kn
    ·
     obtain rfl : T2 = TF.nil := by cases T2 with | nil => rfl | nd a p q b c => simp [TF.num] at hk1; omega
     refine o_step rfl (step_cast (v' := .bool true) (s_geq rfl rfl) (by rw [decide_eq_true (by omega)])) ?_
     refine o_nil ?_
     refine x_then (hK10 _ _ ?_)
     refine c_true rfl ?_
     refine c_seq fun _ hK11 => ?_
     refine c_region ?_
     refine o_step rfl (s_assign rfl) ?_
     refine o_nil ?_
     refine x_then (hK11 _ _ ?_)
     refine c_ret ?_
     refine x_then_ret (x_block_ret (x_then_ret (x_then_ret (x_block_ret (x_then_ret (?_))))))
     exact x_ret rfl (.tmp rfl (.nil)) ((congrArg (Value.int .i64) (by rw [hbt]; rfl)))
    ·
     obtain ⟨a1, p1, q1, K1, T3, rfl⟩ : ∃ a p q K1 T3, T2 = TF.nd a p q K1 T3 := by cases T2 with | nil => simp [TF.num] at hk1; omega | nd a p q b c => exact ⟨a, p, q, b, c, rfl⟩
     simp only [TF.num] at hk1 hk2
     simp only [TF.sz] at hsz
     obtain ⟨r1, xs2, e1, rfl, rfl, rfl, hkk1, htt1⟩ := ht1
     obtain ⟨r2, ys2, e2, rfl, rfl, rfl, hkk2, htt2⟩ := ht2
     have hr1 : xs[k]? = some r1 := by have h := congrArg (fun l => l[0]?) e1; simpa using h
     have hr2 : ys[k]? = some r2 := by have h := congrArg (fun l => l[0]?) e2; simpa using h
     have hxs : xs2 = xs.drop (k + 1) := by have h := congrArg (List.drop 1) e1; rw [List.drop_drop] at h; simpa using h.symm
     have hys : ys2 = ys.drop (k + 1) := by have h := congrArg (List.drop 1) e2; rw [List.drop_drop] at h; simpa using h.symm
     subst hxs
     subst hys
     have hb1 := hs1.1
     have hb2 := hs1.2.1
     have hb3 := hs2.1
     have hb4 := hs2.2.1
     refine o_step rfl (step_cast (v' := .bool false) (s_geq rfl rfl) (by rw [decide_eq_false (by omega)])) ?_
     refine o_nil ?_
     refine x_then (hK10 _ _ ?_)
     refine c_false rfl ?_
     refine c_skip ?_
     refine x_then (hK9 _ _ ?_)
     refine c_seq fun _ hK12 => ?_
     refine c_region ?_
     refine o_step rfl (s_field rfl rfl (by decide)) ?_
     refine o_step rfl (s_ld rfl (.own meA rfl)) ?_
     refine o_step rfl (s_move rfl) ?_
     refine o_step rfl (s_idx rfl rfl hsx (by omega)) ?_
     refine o_step rfl (s_ldB rfl ((RdK.old0 hxr).lds k hr1 rfl) lnA) ?_
     refine o_alloc (l := Erw ⟨0, 0, 0, none, 0, 0⟩) rfl rfl fun b6 => ?_
     refine o_stW rfl rfl upA lnA lnA onA ?_
     refine o_nil ?_
     refine x_then (hK12 _ _ ?_)
     refine c_seq fun _ hK13 => ?_
     refine c_region ?_
     refine o_step rfl (s_field rfl rfl (by decide)) ?_
     refine o_step rfl (s_ld rfl (.own meA rfl)) ?_
     refine o_step rfl (s_move rfl) ?_
     refine o_step rfl (s_idx rfl rfl hsy (by omega)) ?_
     refine o_step rfl (s_ldB rfl ((RdK.old0 hyr).lds k hr2 rfl) lnA) ?_
     refine o_alloc (l := Erw ⟨0, 0, 0, none, 0, 0⟩) rfl rfl fun b7 => ?_
     refine o_stW rfl rfl upA lnA lnA onA ?_
     refine o_nil ?_
     refine x_then (hK13 _ _ ?_)
     refine c_seq fun _ hK14 => ?_
     refine c_seq fun _ hK15 => ?_
     refine c_region ?_
     refine o_step rfl (s_field rfl rfl (by decide)) ?_
     refine o_step rfl (s_ld rfl (.own meA rfl)) ?_
     refine o_step rfl (s_field rfl rfl (by decide)) ?_
     refine o_step rfl (s_ld rfl (.own meA rfl)) ?_
     by_cases ha1 : (r1.a : Int) < r2.a
     ·
      refine o_step rfl (step_cast (v' := .bool true) (s_lss rfl rfl) (by rw [decide_eq_true (by omega)])) ?_
      refine o_nil ?_
      refine x_then (hK15 _ _ ?_)
      refine c_true rfl ?_
      refine c_seq fun _ hK16 => ?_
      refine c_region ?_
      refine o_step rfl (s_assign rfl) ?_
      refine o_nil ?_
      refine x_then (hK16 _ _ ?_)
      refine c_ret ?_
      refine x_then_ret (x_block_ret (x_then_ret (x_then_ret (x_block_ret (x_then_ret (?_))))))
      exact x_ret rfl (.tmp rfl (.nil)) ((congrArg (Value.int .i64) (by rw [hbt, Mc.bt, if_pos (by omega)])))
     ·
      refine o_step rfl (step_cast (v' := .bool false) (s_lss rfl rfl) (by rw [decide_eq_false (by omega)])) ?_
      refine o_nil ?_
      refine x_then (hK15 _ _ ?_)
      refine c_false rfl ?_
      refine c_skip ?_
      refine x_then (hK14 _ _ ?_)
      refine c_seq fun _ hK17 => ?_
      refine c_seq fun _ hK18 => ?_
      refine c_region ?_
      refine o_step rfl (s_field rfl rfl (by decide)) ?_
      refine o_step rfl (s_ld rfl (.own meA rfl)) ?_
      refine o_step rfl (s_field rfl rfl (by decide)) ?_
      refine o_step rfl (s_ld rfl (.own meA rfl)) ?_
      by_cases ha2 : (r1.a : Int) > r2.a
      ·
       refine o_step rfl (step_cast (v' := .bool true) (s_gtr rfl rfl) (by rw [decide_eq_true (by omega)])) ?_
       refine o_nil ?_
       refine x_then (hK18 _ _ ?_)
       refine c_true rfl ?_
       refine c_seq fun _ hK19 => ?_
       refine c_region ?_
       refine o_step rfl (s_assign rfl) ?_
       refine o_nil ?_
       refine x_then (hK19 _ _ ?_)
       refine c_ret ?_
       refine x_then_ret (x_block_ret (x_then_ret (x_then_ret (x_block_ret (x_then_ret (?_))))))
       exact x_ret rfl (.tmp rfl (.nil)) ((congrArg (Value.int .i64) (by rw [hbt, Mc.bt, if_neg (by omega), if_pos (by omega)])))
      ·
       refine o_step rfl (step_cast (v' := .bool false) (s_gtr rfl rfl) (by rw [decide_eq_false (by omega)])) ?_
       refine o_nil ?_
       refine x_then (hK18 _ _ ?_)
       refine c_false rfl ?_
       refine c_skip ?_
       refine x_then (hK17 _ _ ?_)
       refine c_seq fun _ hK20 => ?_
       refine c_seq fun _ hK21 => ?_
       refine c_region ?_
       refine o_step rfl (s_field rfl rfl (by decide)) ?_
       refine o_step rfl (s_ld rfl (.own meA rfl)) ?_
       refine o_step rfl (s_field rfl rfl (by decide)) ?_
       refine o_step rfl (s_ld rfl (.own meA rfl)) ?_
       refine o_step rfl (s_sub rfl rfl (by omega)) ?_
       refine o_step rfl (s_field rfl rfl (by decide)) ?_
       refine o_step rfl (s_ld rfl (.own meA rfl)) ?_
       refine o_step rfl (s_field rfl rfl (by decide)) ?_
       refine o_step rfl (s_ld rfl (.own meA rfl)) ?_
       refine o_step rfl (s_sub rfl rfl (by omega)) ?_
       by_cases hq1 : (r1.q : Int) - r1.p > (r2.q : Int) - r2.p
       ·
        refine o_step rfl (step_cast (v' := .bool true) (s_gtr rfl rfl) (by rw [decide_eq_true (by omega)])) ?_
        refine o_nil ?_
        refine x_then (hK21 _ _ ?_)
        refine c_true rfl ?_
        refine c_seq fun _ hK22 => ?_
        refine c_region ?_
        refine o_step rfl (s_assign rfl) ?_
        refine o_nil ?_
        refine x_then (hK22 _ _ ?_)
        refine c_ret ?_
        refine x_then_ret (x_block_ret (x_then_ret (x_then_ret (x_block_ret (x_then_ret (?_))))))
        exact x_ret rfl (.tmp rfl (.nil)) ((congrArg (Value.int .i64) (by rw [hbt, Mc.bt, if_neg (by omega), if_neg (by omega), if_pos (by omega)])))
       ·
        refine o_step rfl (step_cast (v' := .bool false) (s_gtr rfl rfl) (by rw [decide_eq_false (by omega)])) ?_
        refine o_nil ?_
        refine x_then (hK21 _ _ ?_)
        refine c_false rfl ?_
        refine c_skip ?_
        refine x_then (hK20 _ _ ?_)
        refine c_seq fun _ hK23 => ?_
        refine c_seq fun _ hK24 => ?_
        refine c_region ?_
        refine o_step rfl (s_field rfl rfl (by decide)) ?_
        refine o_step rfl (s_ld rfl (.own meA rfl)) ?_
        refine o_step rfl (s_field rfl rfl (by decide)) ?_
        refine o_step rfl (s_ld rfl (.own meA rfl)) ?_
        refine o_step rfl (s_sub rfl rfl (by omega)) ?_
        refine o_step rfl (s_field rfl rfl (by decide)) ?_
        refine o_step rfl (s_ld rfl (.own meA rfl)) ?_
        refine o_step rfl (s_field rfl rfl (by decide)) ?_
        refine o_step rfl (s_ld rfl (.own meA rfl)) ?_
        refine o_step rfl (s_sub rfl rfl (by omega)) ?_
        by_cases hq2 : (r1.q : Int) - r1.p < (r2.q : Int) - r2.p
        ·
         refine o_step rfl (step_cast (v' := .bool true) (s_lss rfl rfl) (by rw [decide_eq_true (by omega)])) ?_
         refine o_nil ?_
         refine x_then (hK24 _ _ ?_)
         refine c_true rfl ?_
         refine c_seq fun _ hK25 => ?_
         refine c_region ?_
         refine o_step rfl (s_assign rfl) ?_
         refine o_nil ?_
         refine x_then (hK25 _ _ ?_)
         refine c_ret ?_
         refine x_then_ret (x_block_ret (x_then_ret (x_then_ret (x_block_ret (x_then_ret (?_))))))
         exact x_ret rfl (.tmp rfl (.nil)) ((congrArg (Value.int .i64) (by rw [hbt, Mc.bt, if_neg (by omega), if_neg (by omega), if_neg (by omega), if_pos (by omega)])))
        ·
         refine o_step rfl (step_cast (v' := .bool false) (s_lss rfl rfl) (by rw [decide_eq_false (by omega)])) ?_
         refine o_nil ?_
         refine x_then (hK24 _ _ ?_)
         refine c_false rfl ?_
         refine c_skip ?_
         refine x_then (hK23 _ _ ?_)
         refine c_seq fun _ hK26 => ?_
         refine c_region ?_
         refine o_step rfl (s_ldB rfl (RdPK.cels (.own meA)) lnA) ?_
         refine o_step rfl (s_ldB rfl (RdPK.cels (.own meA)) lnA) ?_
         refine o_callP (ih K1 K2 r1 r2 (by omega) hs1.2.2.1 hs2.2.2.1) rfl rfl rfl (fun w2 st => ⟨KidT.out st hkk1, KidT.out st hkk2⟩) (fun v77 hv77 => ?_)
         subst hv77
         refine o_step rfl (s_assign rfl) ?_
         refine o_nil ?_
         refine x_then (hK26 _ _ ?_)
         refine c_seq fun _ hK27 => ?_
         refine c_region ?_
         refine o_step rfl (s_move rfl) ?_
         by_cases hc : bt K1 K2 ≠ 0
         ·
          refine o_step rfl (step_cast (v' := .bool true) (s_neq rfl rfl) (by rw [decide_eq_true (by omega)])) ?_
          refine o_nil ?_
          refine x_then (hK27 _ _ ?_)
          refine c_true rfl ?_
          refine c_seq fun _ hK28 => ?_
          refine c_region ?_
          refine o_step rfl (s_move rfl) ?_
          refine o_step rfl (s_assign rfl) ?_
          refine o_nil ?_
          refine x_then (hK28 _ _ ?_)
          refine c_ret ?_
          refine x_block_ret (x_then_ret (x_then_ret (x_block_ret (x_then_ret (?_)))))
          exact x_ret rfl (.tmp rfl (.nil)) ((congrArg (Value.int .i64) (by rw [hbt, Mc.bt, if_neg (by omega), if_neg (by omega), if_neg (by omega), if_neg (by omega), if_neg hc])))
         ·
          refine o_step rfl (step_cast (v' := .bool false) (s_neq rfl rfl) (by rw [decide_eq_false (by omega)])) ?_
          refine o_nil ?_
          refine x_then (hK27 _ _ ?_)
          refine c_false rfl ?_
          refine c_skip ?_
          refine x_block ?_
          refine x_then (hK5 _ _ ?_)
          refine c_region ?_
          refine o_step rfl (s_move rfl) ?_
          refine o_step rfl (s_add rfl rfl (by omega)) ?_
          refine o_step rfl (s_assign rfl) ?_
          refine o_nil ?_
          exact x_then (x_inv (k + 1, T3, U3) ⟨by dsimp only; rw [hbt, Mc.bt, if_neg (by omega), if_neg (by omega), if_neg (by omega), if_neg (by omega), if_pos (by omega)], by dsimp only; omega, by dsimp only; omega, htt1, htt2, by dsimp only; omega, hs1.2.2.2, hs2.2.2.2⟩ (by simp only [TF.num]; omega) sbA hzB)
  ·
   intro _ hJ4
   refine c_seq fun _ hK29 => ?_
   refine c_region ?_
   refine o_step rfl (s_move rfl) ?_
   refine o_step rfl (s_field rfl rfl (by decide)) ?_
   refine o_step rfl (s_ld rfl (.own meA rfl)) ?_
   refine o_step rfl (s_len rfl) ?_
   by_cases h1 : (k : Int) < x.kn
   ·
    refine o_step rfl (step_cast (v' := .bool true) (s_lss rfl rfl) (by rw [decide_eq_true (by omega)])) ?_
    refine o_step rfl (s_move rfl) ?_
    refine o_no rfl rfl rfl rfl ?_
    refine o_no rfl rfl rfl rfl ?_
    refine o_no rfl rfl rfl rfl ?_
    refine o_no rfl rfl rfl rfl ?_
    refine o_no rfl rfl rfl rfl ?_
    refine o_step rfl (s_pick_t rfl rfl) ?_
    refine o_nil ?_
    refine x_then (hK29 _ _ ?_)
    refine c_true rfl ?_
    refine c_skip ?_
    exact x_then (hJ4 () _ _ (.inl h1) sbA sbA hzB)
   ·
    refine o_step rfl (step_cast (v' := .bool false) (s_lss rfl rfl) (by rw [decide_eq_false (by omega)])) ?_
    refine o_step rfl (s_move rfl) ?_
    refine o_yes rfl rfl ?_
    refine o_step rfl (s_move rfl) ?_
    refine o_yes rfl rfl ?_
    refine o_step rfl (s_field rfl rfl (by decide)) ?_
    refine o_yes rfl rfl ?_
    refine o_step rfl (s_ld rfl (.own meA rfl)) ?_
    refine o_yes rfl rfl ?_
    refine o_step rfl (s_len rfl) ?_
    refine o_yes rfl rfl ?_
    by_cases h2 : (k : Int) < y.kn
    ·
     refine o_step rfl (step_cast (v' := .bool true) (s_lss rfl rfl) (by rw [decide_eq_true (by omega)])) ?_
     refine o_step rfl (s_pick_f rfl rfl) ?_
     refine o_nil ?_
     refine x_then (hK29 _ _ ?_)
     refine c_true rfl ?_
     refine c_skip ?_
     exact x_then (hJ4 () _ _ (.inr h2) sbA sbA hzB)
    ·
     obtain rfl : T2 = TF.nil := by cases T2 with | nil => rfl | nd a p q b c => simp [TF.num] at hk1; omega
     obtain rfl : U2 = TF.nil := by cases U2 with | nil => rfl | nd a p q b c => simp [TF.num] at hk2; omega
     refine o_step rfl (step_cast (v' := .bool false) (s_lss rfl rfl) (by rw [decide_eq_false (by omega)])) ?_
     refine o_step rfl (s_pick_f rfl rfl) ?_
     refine o_nil ?_
     refine x_then (hK29 _ _ ?_)
     refine c_false rfl ?_
     refine c_exit ?_
     refine x_then_exit ?_
     refine x_then_exit ?_
     refine x_block_exit ?_
     refine x_then (hK2 _ _ ?_)
     refine c_seq fun _ hK30 => ?_
     refine c_region ?_
     refine o_step rfl (s_assign rfl) ?_
     refine o_nil ?_
     refine x_then (hK30 _ _ ?_)
     refine c_ret ?_
     refine ?_
     exact x_ret rfl (.tmp rfl (.nil)) ((congrArg (Value.int .i64) (by rw [hbt]; rfl)))

theorem better_all (T U : TF) (x y : Rw) (hT : Sm T) (hU : Sm U) : HL.Fn Try.prog 11 [.agg (Erw x).toArray, .agg (Erw y).toArray] (fun w => KidT w x T ∧ KidT w y U) [] (fun v _ => v = .int .i64 (bt T U)) := by
  have key : ∀ (n : Nat) (T U : TF) (x y : Rw), T.sz < n → Sm T → Sm U → HL.Fn Try.prog 11 [.agg (Erw x).toArray, .agg (Erw y).toArray] (fun w => KidT w x T ∧ KidT w y U) [] (fun v _ => v = .int .i64 (bt T U)) := by
    intro n
    induction n with
    | zero => intro T U x y h; omega
    | succ n ih => intro T U x y h h1 h2; exact better_fn n ih T U x y (by omega) h1 h2
  exact key _ T U x y (Nat.lt_succ_self _) hT hU

set_option maxHeartbeats 2000000 in
theorem told_fn (ra : Option Addr) (rc : Nat) (re : List Nd) (hre : ∀ x ∈ re, -128 ≤ x.op ∧ x.op < 128) (hr8 : ∀ x ∈ re, ¬ x.op = 8) (hrl : re.length ≤ 1000000) (ca : Option Addr) (cc N : Nat) (hsl8 : Slots re N) (n : Nat) (ih : ∀ (x : Rw) (ks : TF) (cs cs3 : List Sp) (Sc : Hp), ks.sz < n → TldT re (.nd x.a x.p x.q ks .nil) none cs cs3 → cs.length = N → OwnS Esp 2 25 (.slice ca N cc) cs Sc → HL.Fn Try.prog 28 [.slice ra re.length rc, .agg (Erw x).toArray, .slice ca N cc] (fun w => ReM re (.slice ra re.length rc) (keys Sc) w ∧ KidM (keys Sc) w x ks) Sc (fun _ S' => OwnS Esp 2 25 (.slice ca N cc) cs3 S')) (x : Rw) (ks : TF) (cs cs3 : List Sp) (Sc : Hp) (hkn : ks.sz ≤ n) (htl : TldT re (.nd x.a x.p x.q ks .nil) none cs cs3) (hcl : cs.length = N) (hO : OwnS Esp 2 25 (.slice ca N cc) cs Sc) : HL.Fn Try.prog 28 [.slice ra re.length rc, .agg (Erw x).toArray, .slice ca N cc] (fun w => ReM re (.slice ra re.length rc) (keys Sc) w ∧ KidM (keys Sc) w x ks) Sc (fun _ S' => OwnS Esp 2 25 (.slice ca N cc) cs3 S') := by
  refine fn_of Try.func28 rfl rfl rfl fun w0 hw => ?_
  have hsl := hw.1.rd.sl
  obtain ⟨x0, js, e, cs1, hp, _, htk, hte⟩ := htl
  simp only [TldT] at hte
  obtain ⟨hx, hpk, _⟩ := hp.head
  have hilt := (List.getElem?_eq_some_iff.1 hx).1
  have hxm := List.mem_of_getElem? hx
  have hox := hre x0 hxm
  obtain ⟨sys, hsn, hsr, hsa, hst⟩ := hw.2
  have hss := hsr.sl
  have hsb := hss.le
  rw [← hsn] at hss
  have hCs := hO.sl
  rw [hcl] at hCs
  have hw1 := hw.1
  refine c_seq fun _ hK1 => ?_
  refine c_region ?_
  refine o_box rfl rfl rfl fun b4 => ?_
  refine o_nil ?_
  refine x_then (hK1 _ _ ?_)
  refine c_seq fun _ hK2 => ?_
  refine c_region ?_
  refine o_step rfl (s_move rfl) ?_
  refine o_step rfl (s_move rfl) ?_
  refine o_step rfl (step_cast (v' := .agg [.slice ra re.length rc, .slice none 0 0, .slice ca N cc].toArray) (s_build (cs := [_, _, _]) (vs := [_, _]) rfl rfl (.cons rfl rfl rfl rfl rfl (.cons rfl rfl rfl rfl rfl .nil))) rfl) ?_
  refine o_box rfl rfl rfl fun b12 => ?_
  refine o_step rfl (s_assign rfl) ?_
  refine o_nil ?_
  refine x_then (hK2 _ _ ?_)
  refine c_seq fun _ hK3 => ?_
  refine c_region ?_
  refine o_step rfl (s_move rfl) ?_
  refine o_step rfl (s_field rfl rfl (by decide)) ?_
  refine o_step rfl (s_ld rfl (.own meA rfl)) ?_
  refine o_step rfl (s_idx rfl rfl hsl (by omega)) ?_
  refine o_step rfl (s_field rfl rfl (by decide)) ?_
  refine o_step rfl (s_ld rfl ((RdK.old hw1.rd hw1.ap).ld x.a 0 hx rfl (by decide) (by omega))) ?_
  refine o_step rfl (s_convI rfl (by omega)) ?_
  refine o_step rfl (s_assign rfl) ?_
  refine o_nil ?_
  refine x_then (hK3 _ _ ?_)
  refine c_seqJ (ι := List Sp × Hp) (fun g1 => g1.1 = (if x0.op = 7 then fgt js.flat cs else cs) ∧ OwnS Esp 2 25 (.slice ca N cc) g1.1 g1.2) (fun g1 => []) [(0, _), (2, _), (4, _), (6, _), (7, _)] (fun g1 => g1.2 ++ [(b12, .cells (WalkE.cells (⟨b12, ra, rc, re, none, 0, [], ca, N, cc⟩ : WalkE)).toArray 87 (0, 0)), (b4, .cells (Erw x).toArray 35 (0, 0))]) sbA ?_ ?_
  ·
   rintro g1 ⟨hg1, hO1⟩
   refine c_seq fun _ hK5 => ?_
   refine c_seq fun _ hK6 => ?_
   refine c_region ?_
   refine o_step rfl (s_assign rfl) ?_
   refine o_nil ?_
   refine x_then (hK6 _ _ ?_)
   refine c_block ?_
   refine c_loop4 (fun (k : Nat) (T2 : TF) (cs2 : List Sp) (Sc2 : Hp) => k + T2.num = sys.length ∧ TieM (keys Sc) w0 T2 (sys.drop k) ∧ TldT re T2 (if x0.op = 6 then some (x.a + 1) else none) cs2 cs1 ∧ cs2.length = N ∧ T2.sz ≤ n ∧ OwnS Esp 2 25 (.slice ca N cc) cs2 Sc2) (fun (k : Nat) (T2 : TF) (cs2 : List Sp) (Sc2 : Hp) => [(8, .int .i64 k)]) [(0, _), (2, _), (4, _), (6, _), (7, _)] (fun (k : Nat) (T2 : TF) (cs2 : List Sp) (Sc2 : Hp) => Sc2 ++ [(b12, .cells (WalkE.cells (⟨b12, ra, rc, re, none, 0, [], ca, N, cc⟩ : WalkE)).toArray 87 (0, 0)), (b4, .cells (Erw x).toArray 35 (0, 0))]) (fun (k : Nat) (T2 : TF) (cs2 : List Sp) (Sc2 : Hp) => T2.num) 0 ks g1.1 g1.2 ⟨by have := hst.num; omega, hst, by rw [hg1]; simpa using htk, by rw [hg1]; split <;> simp [fgt_len, hcl], hkn, hO1⟩ sbA sbA hzB ?_
   rintro k T2 cs2 Sc2 ⟨hkt, htm, htd, hcl2, hsz, hO2⟩
   refine c_seq fun _ hK7 => ?_
   refine c_seq fun _ hK8 => ?_
   refine c_region ?_
   refine o_step rfl (s_move rfl) ?_
   refine o_step rfl (s_field rfl rfl (by decide)) ?_
   refine o_step rfl (s_ld rfl (.own meA rfl)) ?_
   refine o_step rfl (s_len rfl) ?_
   by_cases hkx : (k : Int) < x.kn
   ·
    obtain ⟨a, p, q, K1, T3, rfl⟩ : ∃ a p q K1 T3, T2 = TF.nd a p q K1 T3 := by cases T2 with | nil => simp [TF.num] at hkt; omega | nd a p q b c => exact ⟨a, p, q, b, c, rfl⟩
    simp only [TF.num] at hkt
    obtain ⟨r, ys2, e1, rfl, rfl, rfl, ⟨rs, hrn, hrr, hra, hrt⟩, htt⟩ := htm
    have hrk : sys[k]? = some r := by have h := congrArg (fun l => l[0]?) e1; simpa using h
    have hys : ys2 = sys.drop (k + 1) := by have h := congrArg (List.drop 1) e1; rw [List.drop_drop] at h; simpa using h.symm
    subst hys
    obtain ⟨x', js', e', cs1', hp', hag', hkd, htr⟩ := htd
    have hag : x0.op = 6 → r.a = x.a + 1 := fun h => hag' _ (by rw [if_pos h])
    have hsome : (if x0.op = 6 then some (x.a + 1) else none : Option Nat).isSome = decide (x0.op = 6) := by split <;> simp [*]
    rw [hsome] at hkd
    simp only [decide_eq_true_eq] at hkd
    have hT1 : ∀ c, c = (if x0.op = 6 then fgt (x' :: js'.flat) cs2 else cs2) → TldT re (.nd r.a r.p r.q K1 .nil) none c (if x'.op = 7 then cs1'.set x'.n.toNat ⟨r.p, r.q⟩ else cs1') := fun c hc => by subst hc; exact ⟨x', js', e', cs1', hp', fun b hb => (by cases hb), hkd, rfl⟩
    have hl48 : (if x'.op = 7 then cs1'.set x'.n.toNat ⟨r.p, r.q⟩ else cs1').length = N := by rw [TldT_len _ _ _ _ (hT1 _ rfl)]; split <;> simp [fgt_len, hcl2]
    refine o_step rfl (step_cast (v' := .bool true) (s_lss rfl rfl) (by rw [decide_eq_true (by omega)])) ?_
    refine o_nil ?_
    refine x_then (hK8 _ _ ?_)
    refine c_true rfl ?_
    refine c_skip ?_
    refine x_then (hK7 _ _ ?_)
    refine c_seq fun _ hK9 => ?_
    refine c_block ?_
    refine c_seqJ (ι := List Sp × Hp) (fun g2 => g2.1 = (if x0.op = 6 then fgt (x' :: js'.flat) cs2 else cs2) ∧ OwnS Esp 2 25 (.slice ca N cc) g2.1 g2.2) (fun g2 => []) [(0, _), (2, _), (4, _), (6, _), (7, _), (8, _), (27, _), (28, _), (29, _), (30, _), (31, _)] (fun g2 => g2.2 ++ [(b12, .cells (WalkE.cells (⟨b12, ra, rc, re, none, 0, [], ca, N, cc⟩ : WalkE)).toArray 87 (0, 0)), (b4, .cells (Erw x).toArray 35 (0, 0))]) sbA ?_ ?_
    ·
     rintro g2 ⟨hg1, hg2⟩
     refine c_region ?_
     refine o_step rfl (s_move rfl) ?_
     refine o_step rfl (s_field rfl rfl (by decide)) ?_
     refine o_step rfl (s_ld rfl (.own meA rfl)) ?_
     refine o_step rfl (s_move rfl) ?_
     refine o_step rfl (s_idx rfl rfl hss (by omega)) ?_
     refine o_step rfl (s_ldB rfl ((RdK.old hsr hsa).lds k hrk rfl) lnA) ?_
     refine o_step rfl (s_move rfl) ?_
     refine o_call (ih r K1 g2.1 _ g2.2 (by simp only [TF.sz] at hsz; omega) (hT1 _ hg1) (by rw [hg1]; split <;> simp [fgt_len, hcl2]) hg2) rfl rfl rfl pkA (fun w2 st => ⟨hw1.sub st hiA, KidM.sub st hiA ⟨rs, hrn, hrr, hra, hrt⟩⟩) (fun v48 S48 hO48 => ?_)
     refine o_nil ?_
     refine x_block ?_
     refine x_then (hK9 _ _ ?_)
     refine c_region ?_
     refine o_step rfl (s_move rfl) ?_
     refine o_step rfl (s_add rfl rfl (by omega)) ?_
     refine o_step rfl (s_assign rfl) ?_
     refine o_nil ?_
     exact x_then (x_inv (k + 1, T3, _, S48) ⟨by dsimp only; omega, htt, htr, hl48, by simp only [TF.sz] at hsz; dsimp only; omega, hO48⟩ (by simp only [TF.num]; omega) sbA hzB)
    ·
     intro _ hJ10
     refine c_seq fun _ hK11 => ?_
     refine c_region ?_
     refine o_step rfl (s_move rfl) ?_
     by_cases o6 : x0.op = 6
     ·
      refine o_step rfl (step_cast (v' := .bool true) (s_eql rfl rfl) (by rw [decide_eq_true o6])) ?_
      refine o_nil ?_
      refine x_then (hK11 _ _ ?_)
      refine c_true rfl ?_
      refine c_region ?_
      refine o_step rfl (s_move rfl) ?_
      refine o_step rfl (s_field rfl rfl (by decide)) ?_
      refine o_step rfl (s_ld rfl (.own meA rfl)) ?_
      refine o_step rfl (s_add rfl rfl (by omega)) ?_
      refine o_call (forget10_fn (⟨b12, ra, rc, re, none, 0, [], ca, N, cc⟩ : WalkE) ⟨hre, hr8, by show re.length ≤ _; omega, by simp⟩ x' js' (x.a + 1) _ (hag o6 ▸ hp') cs2 Sc2 hcl2 hsl8 hO2) rfl rfl rfl pkA (fun w2 st => EnvW.make2 st pkA hw.1 ⟨rfl, rfl, rfl⟩ meA) (fun v40 S40 hO40 => ?_)
      refine o_nil ?_
      exact x_then (hJ10 (fgt (F.nd x' js' .nil).flat cs2, S40) _ _ ⟨by rw [if_pos o6]; show fgt (x' :: (js'.flat ++ [])) cs2 = _; rw [List.append_nil], hO40⟩ sbA sbA hzB)
     ·
      refine o_step rfl (step_cast (v' := .bool false) (s_eql rfl rfl) (by rw [decide_eq_false o6])) ?_
      refine o_nil ?_
      refine x_then (hK11 _ _ ?_)
      refine c_false rfl ?_
      refine c_skip ?_
      exact x_then (hJ10 (cs2, Sc2) _ _ ⟨by rw [if_neg o6], hO2⟩ sbA sbA hzB)
   ·
    obtain rfl : T2 = TF.nil := by cases T2 with | nil => rfl | nd a p q b c => simp [TF.num] at hkt; omega
    simp only [TldT] at htd
    have hCs2 := hO2.sl
    rw [hcl2] at hCs2
    refine o_step rfl (step_cast (v' := .bool false) (s_lss rfl rfl) (by rw [decide_eq_false (by omega)])) ?_
    refine o_nil ?_
    refine x_then (hK8 _ _ ?_)
    refine c_false rfl ?_
    refine c_exit ?_
    refine x_then_exit ?_
    refine x_then_exit ?_
    refine x_block_exit ?_
    refine x_then (hK5 _ _ ?_)
    refine c_seq fun _ hK12 => ?_
    refine c_region ?_
    refine o_step rfl (s_move rfl) ?_
    by_cases o7 : x0.op = 7
    ·
     have hx7 := hsl8 x0 hxm o7
     refine o_step rfl (step_cast (v' := .bool true) (s_eql rfl rfl) (by rw [decide_eq_true o7])) ?_
     refine o_nil ?_
     refine x_then (hK12 _ _ ?_)
     refine c_true rfl ?_
     refine c_drawE ([(b4, .cells (Erw x).toArray 35 (0, 0))]) (fun i => false) ?_
     refine e_take 0 rfl (by kernel_rfl) (by kernel_rfl) (by kernel_rfl) (by kernel_rfl) (fun _ _ => rfl) rfl hzB (s_move rfl) ?_
     refine e_take 1 rfl (by kernel_rfl) (by kernel_rfl) (by kernel_rfl) (by kernel_rfl) (fun _ _ => rfl) rfl hzB (s_move rfl) ?_
     refine e_take 2 rfl (by kernel_rfl) (by kernel_rfl) (by kernel_rfl) (by kernel_rfl) (fun _ _ => rfl) rfl hzB (s_field rfl rfl (by decide)) ?_
     refine e_take 3 rfl (by kernel_rfl) (by kernel_rfl) (by kernel_rfl) (by kernel_rfl) (fun _ _ => rfl) rfl hzB (s_ld rfl (.own meA rfl)) ?_
     refine e_take 4 rfl (by kernel_rfl) (by kernel_rfl) (by kernel_rfl) (by kernel_rfl) (fun _ _ => rfl) rfl hzB (s_idx rfl rfl hsl (by omega)) ?_
     refine e_take 5 rfl (by kernel_rfl) (by kernel_rfl) (by kernel_rfl) (by kernel_rfl) (fun _ _ => rfl) rfl hzB (s_field rfl rfl (by decide)) ?_
     refine e_take 6 rfl (by kernel_rfl) (by kernel_rfl) (by kernel_rfl) (by kernel_rfl) (fun _ _ => rfl) rfl hzB (s_ld rfl ((RdK.old hw1.rd hw1.ap).ld x.a 5 hx rfl (by decide) (by omega))) ?_
     refine e_take 7 rfl (by kernel_rfl) (by kernel_rfl) (by kernel_rfl) (by kernel_rfl) (fun _ _ => rfl) rfl hzB (s_field rfl rfl (by decide)) ?_
     refine e_take 8 rfl (by kernel_rfl) (by kernel_rfl) (by kernel_rfl) (by kernel_rfl) (fun _ _ => rfl) rfl hzB (s_ld rfl (.own meA rfl)) ?_
     refine e_take 9 rfl (by kernel_rfl) (by kernel_rfl) (by kernel_rfl) (by kernel_rfl) (fun _ _ => rfl) rfl hzB (s_field rfl rfl (by decide)) ?_
     refine e_take 10 rfl (by kernel_rfl) (by kernel_rfl) (by kernel_rfl) (by kernel_rfl) (fun _ _ => rfl) rfl hzB (s_ld rfl (.own meA rfl)) ?_
     refine e_take 11 rfl (by kernel_rfl) (by kernel_rfl) (by kernel_rfl) (by kernel_rfl) (fun _ _ => rfl) rfl hzB (step_cast (v' := .agg (Esp ⟨x.p, x.q⟩).toArray) (s_build (cs := [_, _]) (vs := [_, _]) rfl rfl (.cons rfl rfl rfl rfl rfl (.cons rfl rfl rfl rfl rfl (.nil)))) rfl) ?_
     refine e_take 12 rfl (by kernel_rfl) (by kernel_rfl) (by kernel_rfl) (by kernel_rfl) (fun _ _ => rfl) rfl hzB (s_idx rfl rfl hCs (by omega)) ?_
     refine e_one 13 rfl (by kernel_rfl) ?_
     refine o_stSE x0.n.toNat ⟨x.p, x.q⟩ hO2 pkA rfl rfl (by omega) (by rfl) fun S' hS' => ?_
     refine o_nil ?_
     refine x_oneS hzB ?_
     refine e_done (by kernel_rfl) ?_
     refine x_sub (Sub.refl _) (H' := S') hzB ?_
     exact x_end rfl (.nil) ((by rw [hte, if_pos o7, htd]; exact hS'))
    ·
     refine o_step rfl (step_cast (v' := .bool false) (s_eql rfl rfl) (by rw [decide_eq_false o7])) ?_
     refine o_nil ?_
     refine x_then (hK12 _ _ ?_)
     refine c_false rfl ?_
     refine c_skip ?_
     refine x_sub (Sub.refl _) (H' := Sc2) hzB ?_
     exact x_end rfl (.nil) ((by rw [hte, if_neg o7, htd]; exact hO2))
  ·
   intro _ hJ4
   refine c_seq fun _ hK13 => ?_
   refine c_region ?_
   refine o_step rfl (s_move rfl) ?_
   by_cases o7 : x0.op = 7
   ·
    refine o_step rfl (step_cast (v' := .bool true) (s_eql rfl rfl) (by rw [decide_eq_true o7])) ?_
    refine o_nil ?_
    refine x_then (hK13 _ _ ?_)
    refine c_true rfl ?_
    obtain ⟨y, js2, rfl⟩ := one_kid hp.wf (.inr o7)
    refine c_region ?_
    refine o_step rfl (s_move rfl) ?_
    refine o_step rfl (s_field rfl rfl (by decide)) ?_
    refine o_step rfl (s_ld rfl (.own meA rfl)) ?_
    refine o_step rfl (s_add rfl rfl (by omega)) ?_
    refine o_call (forget10_fn (⟨b12, ra, rc, re, none, 0, [], ca, N, cc⟩ : WalkE) ⟨hre, hr8, by show re.length ≤ _; omega, by simp⟩ y js2 (x.a + 1) _ hpk cs Sc hcl hsl8 hO) rfl rfl rfl pkA (fun w2 st => EnvW.make2 st pkA hw.1 ⟨rfl, rfl, rfl⟩ meA) (fun v26 S26 hO26 => ?_)
    refine o_nil ?_
    exact x_then (hJ4 (fgt (F.nd y js2 .nil).flat cs, S26) _ _ ⟨(if_pos o7).symm, hO26⟩ sbA sbA hzB)
   ·
    refine o_step rfl (step_cast (v' := .bool false) (s_eql rfl rfl) (by rw [decide_eq_false o7])) ?_
    refine o_nil ?_
    refine x_then (hK13 _ _ ?_)
    refine c_false rfl ?_
    refine c_skip ?_
    exact x_then (hJ4 (cs, Sc) _ _ ⟨by rw [if_neg o7], hO⟩ sbA sbA hzB)
end Go.Proofs.Ytiggliigookieaa

/- Answers are told by the regex, the text, the place. Conditions: none. -/
namespace Go.HL
open Go
end Go.HL
namespace Go.HL.Kl.Mc
open Go Go.HL Go.HL.Kl
def FRes (re : List Nd) (w : List UInt8) (f : Int) (b : Bool) (L : List Sp) : Prop :=
  (∃ x ks, ∃ g p q : Nat, May re w x ks ∧ f = g ∧ Lft w x ks g p q ∧ b = true ∧ L = capsV w re x ks p q) ∨
  ((¬ ∃ x ks, ∃ g p q : Nat, May re w x ks ∧ f = g ∧ g ≤ p ∧ q ≤ w.length ∧ der1 w x ks p q) ∧ b = false ∧ L = [])
theorem capsV_le {w : List UInt8} {re : List Nd} {x : Nd} {ks : F} {p q : Nat} : (capsV w re x ks p q).length ≤ re.length + 1 := by
  rw [capsV_len]
  have : gcn re ≤ re.length := List.countP_le_length
  omega
def BRes (re : List Nd) (w : List UInt8) (fr to : Int) (b : Bool) (L : List Sp) : Prop :=
  (∃ x ks, ∃ p q : Nat, May re w x ks ∧ fr = p ∧ to = q ∧ p ≤ q ∧ q ≤ w.length ∧ der1 w x ks p q ∧ b = true ∧ L = capsV w re x ks p q) ∨
  ((¬ ∃ x ks, ∃ p q : Nat, May re w x ks ∧ fr = p ∧ to = q ∧ p ≤ q ∧ q ≤ w.length ∧ der1 w x ks p q) ∧ b = false ∧ L = [])
theorem BRes.len {re : List Nd} {w : List UInt8} {fr to : Int} {b : Bool} {L : List Sp} (h : BRes re w fr to b L) : L.length ≤ re.length + 1 := by
  rcases h with ⟨x, ks, p, q, _, _, _, _, _, _, _, rfl⟩ | ⟨_, _, rfl⟩
  · exact capsV_le
  · simp
theorem BestP.res {T : Nat} {re : List Nd} {w : List UInt8} {fr to : Int} {v : Value} {S' : Hp} (h : BestP T re w fr to v S') : ∃ b L a c, BRes re w fr to b L ∧ v = .tuple #[.slice a L.length c, .bool b] ∧ OwnS Esp 2 T (.slice a L.length c) L S' := by
  rcases h with ⟨x, ks, p, q, hm, h1, h2, h3, h4, h5, a, cc, hv, hO⟩ | ⟨hn, hv, rfl⟩
  · exact ⟨true, _, a, cc, .inl ⟨x, ks, p, q, hm, h1, h2, h3, h4, h5, rfl, rfl⟩, hv, hO⟩
  · exact ⟨false, [], none, 0, .inr ⟨hn, rfl, rfl⟩, hv, .nil⟩
/-- the spare bytes; a byte changed -/
def spB (j : Nat) : UInt8 := UInt8.ofNat (279 + 7 * j + 3)
def xor3 (x : UInt8) : UInt8 := UInt8.ofNat (BitVec.ofInt 8 (x.toNat : Int) ^^^ BitVec.ofInt 8 3).toNat
end Go.HL.Kl.Mc
