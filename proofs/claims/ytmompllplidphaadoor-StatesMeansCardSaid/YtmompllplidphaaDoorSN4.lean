/- Part of the proofs over this seat: see the text that holds the theorem. Conditions: each theorem bears its own. -/
import Derived.Test.YtmompllplidphaaDoorSN2
import Derived.Test.YtmompllplidphaaDoorSN3
namespace Go.Proofs.YtmompllplidphaaDoor
open Go Go.HL Go.Proofs Go.HL.Kl Go.HL.Kl.Mc
set_option maxHeartbeats 2000000 in
theorem rNode_step (f : Nat) (ih : ∀ f1, f = f1 + 1 → NodeC Tryd.prog 64 99 f1) (bx : Nat) (ra : Option Addr) (rc : Nat) (re : List Nd) (i wi gr : Nat) (ea : Option Addr) (ec : Nat) (en : List Bool) (Se : Hp) (hre : ∀ x ∈ re, -128 ≤ x.op ∧ x.op < 128) (hwi : wi + f = 260) (hi : i ≤ re.length) (hel : en.length ≤ 255) (hg : gr ≤ 64) (hO : OwnS Ebo 1 4 (.slice ea en.length ec) en Se) : HL.Fn Tryd.prog 64 [.pointer (some ⟨bx, 0, none⟩), .int .i64 wi, .int .i64 gr] (fun w => Rd En w (.slice ra re.length rc) re ∧ Apart (keys ((bx, .cells [.slice ra re.length rc, .int .i64 i, .slice ea en.length ec].toArray 99 (0, 0)) :: Se)) (.slice ra re.length rc)) ((bx, .cells [.slice ra re.length rc, .int .i64 i, .slice ea en.length ec].toArray 99 (0, 0)) :: Se) (NodeP 99 bx ra rc re (shN re f i en gr)) := by
  refine fn_of Tryd.func64 rfl rfl rfl fun w0 hw => ?_
  have hsl := hw.1.sl
  have hbl := hsl.le
  have hOs := hO.sl
  refine c_seq fun _ hK1 => ?_
  refine c_region ?_
  refine o_step rfl (s_assign rfl) ?_
  refine o_nil ?_
  refine x_then (hK1 _ _ ?_)
  refine c_seq fun _ hK2 => ?_
  refine c_seq fun _ hK3 => ?_
  refine c_drawE ((bx, .cells [.slice ra re.length rc, .int .i64 i, .slice ea en.length ec].toArray 99 (0, 0)) :: Se) (fun i => false) ?_
  refine e_take 0 rfl (by kernel_rfl) (by kernel_rfl) (by kernel_rfl) (by kernel_rfl) (fun _ _ => rfl) rfl hzB (s_move rfl) ?_
  refine e_take 1 rfl (by kernel_rfl) (by kernel_rfl) (by kernel_rfl) (by kernel_rfl) (fun _ _ => rfl) rfl hzB (s_nil rfl) ?_
  refine e_take 2 rfl (by kernel_rfl) (by kernel_rfl) (by kernel_rfl) (by kernel_rfl) (fun _ _ => rfl) rfl hzB (s_field rfl rfl (by decide)) ?_
  refine e_take 3 rfl (by kernel_rfl) (by kernel_rfl) (by kernel_rfl) (by kernel_rfl) (fun _ _ => rfl) rfl hzB (s_ld rfl (.own meA rfl)) ?_
  refine e_take 4 rfl (by kernel_rfl) (by kernel_rfl) (by kernel_rfl) (by kernel_rfl) (fun _ _ => rfl) rfl hzB (s_move rfl) ?_
  refine e_take 5 rfl (by kernel_rfl) (by kernel_rfl) (by kernel_rfl) (by kernel_rfl) (fun _ _ => rfl) rfl hzB (s_nil rfl) ?_
  refine e_take 6 rfl (by kernel_rfl) (by kernel_rfl) (by kernel_rfl) (by kernel_rfl) (fun _ _ => rfl) rfl hzB (s_field rfl rfl (by decide)) ?_
  refine e_take 7 rfl (by kernel_rfl) (by kernel_rfl) (by kernel_rfl) (by kernel_rfl) (fun _ _ => rfl) rfl hzB (s_ld rfl (.own meA rfl)) ?_
  refine e_take 8 rfl (by kernel_rfl) (by kernel_rfl) (by kernel_rfl) (by kernel_rfl) (fun _ _ => rfl) rfl hzB (s_len rfl) ?_
  by_cases hend : (i : Int) ≥ re.length
  ·
   have hN : shN re f i en gr = none := shN_end (by omega)
   refine e_take 9 rfl (by kernel_rfl) (by kernel_rfl) (by kernel_rfl) (by kernel_rfl) (fun _ _ => rfl) rfl hzB (step_cast (v' := .bool true) (s_geq rfl rfl) (by rw [decide_eq_true (by omega)])) ?_
   refine e_take 10 rfl (by kernel_rfl) (by kernel_rfl) (by kernel_rfl) (by kernel_rfl) (fun _ _ => rfl) rfl hzB (s_move rfl) ?_
   refine e_skip 11 rfl (by kernel_rfl) (by kernel_rfl) (by kernel_rfl) rfl rfl rfl rfl ?_
   refine e_skip 12 rfl (by kernel_rfl) (by kernel_rfl) (by kernel_rfl) rfl rfl rfl rfl ?_
   refine e_take 13 rfl (by kernel_rfl) (by kernel_rfl) (by kernel_rfl) (by kernel_rfl) (fun _ _ => rfl) rfl hzB (s_pick_t rfl rfl) ?_
   refine e_done (by kernel_rfl) ?_
   refine x_then (hK3 _ _ ?_)
   refine c_true rfl ?_
   refine c_seq fun _ hK4 => ?_
   refine c_region ?_
   refine o_step rfl (s_assign rfl) ?_
   refine o_nil ?_
   refine x_then (hK4 _ _ ?_)
   refine c_ret ?_
   refine x_then_ret (?_)
   exact x_ret rfl (.tmp rfl (.nil)) ((by rw [hN]; rfl))
  ·
   refine e_take 9 rfl (by kernel_rfl) (by kernel_rfl) (by kernel_rfl) (by kernel_rfl) (fun _ _ => rfl) rfl hzB (step_cast (v' := .bool false) (s_geq rfl rfl) (by rw [decide_eq_false (by omega)])) ?_
   refine e_take 10 rfl (by kernel_rfl) (by kernel_rfl) (by kernel_rfl) (by kernel_rfl) (fun _ _ => rfl) rfl hzB (s_move rfl) ?_
   refine e_take 11 rfl (by kernel_rfl) (by kernel_rfl) (by kernel_rfl) (by kernel_rfl) (fun _ fr => by rw [wanted_of fr rfl rfl rfl]; rfl) rfl hzB (s_move rfl) ?_
   by_cases hf : (wi : Int) > 259
   ·
    obtain rfl : f = 0 := by omega
    have hN : shN re 0 i en gr = none := rfl
    refine e_take 12 rfl (by kernel_rfl) (by kernel_rfl) (by kernel_rfl) (by kernel_rfl) (fun _ fr => by rw [wanted_of fr rfl rfl rfl]; rfl) rfl hzB (step_cast (v' := .bool true) (s_gtr rfl rfl) (by rw [decide_eq_true (by omega)])) ?_
    refine e_take 13 rfl (by kernel_rfl) (by kernel_rfl) (by kernel_rfl) (by kernel_rfl) (fun _ _ => rfl) rfl hzB (s_pick_f rfl rfl) ?_
    refine e_done (by kernel_rfl) ?_
    refine x_then (hK3 _ _ ?_)
    refine c_true rfl ?_
    refine c_seq fun _ hK5 => ?_
    refine c_region ?_
    refine o_step rfl (s_assign rfl) ?_
    refine o_nil ?_
    refine x_then (hK5 _ _ ?_)
    refine c_ret ?_
    refine x_then_ret (?_)
    exact x_ret rfl (.tmp rfl (.nil)) ((by rw [hN]; rfl))
   ·
    obtain ⟨f1, rfl⟩ : ∃ f1, f = f1 + 1 := ⟨f - 1, by omega⟩
    obtain ⟨x, hx⟩ : ∃ x, re[i]? = some x := ⟨_, List.getElem?_eq_getElem (show i < re.length by omega)⟩
    have hop := hre x (List.mem_of_getElem? hx)
    refine e_take 12 rfl (by kernel_rfl) (by kernel_rfl) (by kernel_rfl) (by kernel_rfl) (fun _ fr => by rw [wanted_of fr rfl rfl rfl]; rfl) rfl hzB (step_cast (v' := .bool false) (s_gtr rfl rfl) (by rw [decide_eq_false (by omega)])) ?_
    refine e_take 13 rfl (by kernel_rfl) (by kernel_rfl) (by kernel_rfl) (by kernel_rfl) (fun _ _ => rfl) rfl hzB (s_pick_f rfl rfl) ?_
    refine e_done (by kernel_rfl) ?_
    refine x_then (hK3 _ _ ?_)
    refine c_false rfl ?_
    refine c_skip ?_
    refine x_then (hK2 _ _ ?_)
    refine c_seq fun _ hK6 => ?_
    refine c_drawE ((bx, .cells [.slice ra re.length rc, .int .i64 i, .slice ea en.length ec].toArray 99 (0, 0)) :: Se) (fun i => Nat.beq i 11) ?_
    refine e_take 0 rfl (by kernel_rfl) (by kernel_rfl) (by kernel_rfl) (by kernel_rfl) (fun _ _ => rfl) rfl hzB (s_move rfl) ?_
    refine e_take 1 rfl (by kernel_rfl) (by kernel_rfl) (by kernel_rfl) (by kernel_rfl) (fun _ _ => rfl) rfl hzB (s_nil rfl) ?_
    refine e_take 2 rfl (by kernel_rfl) (by kernel_rfl) (by kernel_rfl) (by kernel_rfl) (fun _ _ => rfl) rfl hzB (s_field rfl rfl (by decide)) ?_
    refine e_take 3 rfl (by kernel_rfl) (by kernel_rfl) (by kernel_rfl) (by kernel_rfl) (fun _ _ => rfl) rfl hzB (s_ld rfl (.own meA rfl)) ?_
    refine e_take 4 rfl (by kernel_rfl) (by kernel_rfl) (by kernel_rfl) (by kernel_rfl) (fun _ _ => rfl) rfl hzB (s_move rfl) ?_
    refine e_take 5 rfl (by kernel_rfl) (by kernel_rfl) (by kernel_rfl) (by kernel_rfl) (fun _ _ => rfl) rfl hzB (s_nil rfl) ?_
    refine e_take 6 rfl (by kernel_rfl) (by kernel_rfl) (by kernel_rfl) (by kernel_rfl) (fun _ _ => rfl) rfl hzB (s_field rfl rfl (by decide)) ?_
    refine e_take 7 rfl (by kernel_rfl) (by kernel_rfl) (by kernel_rfl) (by kernel_rfl) (fun _ _ => rfl) rfl hzB (s_ld rfl (.own meA rfl)) ?_
    refine e_take 8 rfl (by kernel_rfl) (by kernel_rfl) (by kernel_rfl) (by kernel_rfl) (fun _ _ => rfl) rfl hzB (s_idx rfl rfl hsl (by omega)) ?_
    refine e_take 9 rfl (by kernel_rfl) (by kernel_rfl) (by kernel_rfl) (by kernel_rfl) (fun _ _ => rfl) rfl hzB (s_ldB rfl ((RdK.old hw.1 hw.2).lds i hx rfl) (by rfl)) ?_
    refine e_one 10 rfl (by kernel_rfl) ?_
    refine o_alloc (l := En zN) (by rw [En_zero]; rfl) rfl fun b7 => ?_
    refine o_nil ?_
    refine x_oneS hzB ?_
    refine e_one 11 rfl (by kernel_rfl) ?_
    refine o_stW rfl rfl upA lnA lnA onA ?_
    refine o_nil ?_
    refine x_oneL rfl ?_
    refine e_done (by kernel_rfl) ?_
    refine x_then (hK6 _ _ ?_)
    refine c_seq fun _ hK7 => ?_
    refine c_region ?_
    refine o_step rfl (s_move rfl) ?_
    refine o_step rfl (s_nil rfl) ?_
    refine o_step rfl (s_field rfl rfl (by decide)) ?_
    refine o_step rfl (s_ld rfl (.own meA rfl)) ?_
    refine o_step rfl (s_add rfl rfl (by omega)) ?_
    refine o_step rfl (s_nil rfl) ?_
    refine o_step rfl (s_field rfl rfl (by decide)) ?_
    refine o_store rfl rfl rfl upA ltA rfl ?_
    dsimp only [List.set]
    refine o_nil ?_
    refine x_then (hK7 _ _ ?_)
    refine c_seq fun _ hK8 => ?_
    refine c_seq fun _ hK9 => ?_
    refine c_region ?_
    refine o_step rfl (s_ldB rfl (RdPK.cels (.own meA)) (by rfl)) ?_
    refine o_callP (flds_fn x hop) rfl rfl rfl (fun _ _ => trivial) (fun v42 hv42 => ?_)
    subst hv42
    cases hfl : flds x
    ·
     have hN : shN re (f1 + 1) i en gr = none := shN_bad hx (by rw [ndOk, hfl]; simp)
     refine o_step rfl (s_not rfl) ?_
     refine o_step rfl (s_move rfl) ?_
     refine o_no rfl rfl rfl rfl ?_
     refine o_no rfl rfl rfl rfl ?_
     refine o_no rfl rfl rfl rfl ?_
     refine o_step rfl (s_pick_t rfl rfl) ?_
     refine o_nil ?_
     refine x_then (hK9 _ _ ?_)
     refine c_true rfl ?_
     refine c_seq fun _ hK10 => ?_
     refine c_region ?_
     refine o_step rfl (s_assign rfl) ?_
     refine o_nil ?_
     refine x_then (hK10 _ _ ?_)
     refine c_ret ?_
     refine x_then_ret (?_)
     exact x_ret rfl (.tmp rfl (.nil)) ((by rw [hN]; rfl))
    ·
     refine o_step rfl (s_not rfl) ?_
     refine o_step rfl (s_move rfl) ?_
     refine o_yes rfl rfl ?_
     refine o_step rfl (s_ldB rfl (RdPK.cels (.own meA)) (by rfl)) ?_
     refine o_yes rfl rfl ?_
     refine o_callP (kids_fn x hop) rfl rfl rfl (fun _ _ => trivial) (fun v46 hv46 => ?_)
     subst hv46
     cases hko : kidsOk x
     ·
      have hN : shN re (f1 + 1) i en gr = none := shN_bad hx (by rw [ndOk, hko]; simp)
      refine o_yes rfl rfl ?_
      refine o_step rfl (s_not rfl) ?_
      refine o_step rfl (s_pick_f rfl rfl) ?_
      refine o_nil ?_
      refine x_then (hK9 _ _ ?_)
      refine c_true rfl ?_
      refine c_seq fun _ hK11 => ?_
      refine c_region ?_
      refine o_step rfl (s_assign rfl) ?_
      refine o_nil ?_
      refine x_then (hK11 _ _ ?_)
      refine c_ret ?_
      refine x_then_ret (?_)
      exact x_ret rfl (.tmp rfl (.nil)) ((by rw [hN]; rfl))
     ·
      have hok : ndOk x = true := by rw [ndOk, hfl, hko]; rfl
      have hk0 := ndOk_kids hok
      refine o_yes rfl rfl ?_
      refine o_step rfl (s_not rfl) ?_
      refine o_step rfl (s_pick_f rfl rfl) ?_
      refine o_nil ?_
      refine x_then (hK9 _ _ ?_)
      refine c_false rfl ?_
      refine c_skip ?_
      refine x_then (hK8 _ _ ?_)
      refine c_seq fun _ hK12 => ?_
      refine c_region ?_
      refine o_step rfl (s_field rfl rfl (by decide)) ?_
      refine o_step rfl (s_ld rfl (.own meA rfl)) ?_
      refine o_step rfl (s_convI rfl (by omega)) ?_
      refine o_step rfl (s_assign rfl) ?_
      refine o_nil ?_
      refine x_then (hK12 _ _ ?_)
      refine c_seqJ (ι := Unit) (fun g => x.op = 8 → 1 ≤ x.n ∧ x.n ≤ en.length ∧ en[x.n.toNat - 1]? = some true) (fun g => []) [(0, _), (1, _), (2, _), (7, _), (8, _)] (fun g => (bx, .cells [.slice ra re.length rc, .int .i64 (i + 1 : Nat), .slice ea en.length ec].toArray 99 (0, 0)) :: (b7, .cells (En x).toArray 57 (0, 0)) :: Se) sbA ?_ ?_
      ·
       rintro g hg8
       refine c_seqJ (ι := (List Bool × Nat × Option Addr × Nat × Hp)) (fun g => gate x en gr = some (g.1, g.2.1) ∧ OwnS Ebo 1 4 (.slice g.2.2.1 g.1.length g.2.2.2.1) g.1 g.2.2.2.2) (fun g => [(2, .int .i64 g.2.1)]) [(0, _), (1, _), (7, _), (8, _)] (fun g => (bx, .cells [.slice ra re.length rc, .int .i64 (i + 1 : Nat), .slice g.2.2.1 g.1.length g.2.2.2.1].toArray 99 (0, 0)) :: (b7, .cells (En x).toArray 57 (0, 0)) :: g.2.2.2.2) sbA ?_ ?_
       ·
        rintro ⟨en1, g1, ea1, ec1, Se1⟩ ⟨hgt, hO1⟩
        dsimp only at hgt hO1
        dsimp only
        have hgl := gate_len hgt hel hg
        refine c_seq fun _ hK15 => ?_
        refine c_seq fun _ hK16 => ?_
        refine c_region ?_
        refine o_step rfl (s_assign rfl) ?_
        refine o_nil ?_
        refine x_then (hK16 _ _ ?_)
        refine c_block ?_
        refine c_loop6 (fun (k : Nat) (i2 : Nat) (en2 : List Bool) (ea2 : Option Addr) (ec2 : Nat) (Se2 : Hp) => (k : Int) ≤ x.kids ∧ kidsN (fun i en => shN re f1 i en g1) k (i + 1) en1 = some (i2, en2) ∧ i + 1 + k ≤ i2 ∧ i2 ≤ re.length ∧ en2.length ≤ 255 ∧ en1.length ≤ en2.length ∧ OwnS Ebo 1 4 (.slice ea2 en2.length ec2) en2 Se2) (fun (k : Nat) (i2 : Nat) (en2 : List Bool) (ea2 : Option Addr) (ec2 : Nat) (Se2 : Hp) => [(9, .int .i64 k)]) [(0, _), (1, _), (2, _), (7, _), (8, _)] (fun (k : Nat) (i2 : Nat) (en2 : List Bool) (ea2 : Option Addr) (ec2 : Nat) (Se2 : Hp) => (bx, .cells [.slice ra re.length rc, .int .i64 i2, .slice ea2 en2.length ec2].toArray 99 (0, 0)) :: (b7, .cells (En x).toArray 57 (0, 0)) :: Se2) (fun (k : Nat) (i2 : Nat) (en2 : List Bool) (ea2 : Option Addr) (ec2 : Nat) (Se2 : Hp) => x.kids.toNat - k) 0 (i + 1) en1 ea1 ec1 Se1 ⟨by omega, rfl, by omega, by omega, hgl.2.1, Nat.le_refl _, hO1⟩ sbA sbA hzB ?_
        rintro k i2 en2 ea2 ec2 Se2 ⟨hk, hkn, hki, hi2, hel2, hel3, hO2⟩
        refine c_seq fun _ hK17 => ?_
        refine c_seq fun _ hK18 => ?_
        refine c_region ?_
        refine o_step rfl (s_move rfl) ?_
        refine o_step rfl (s_field rfl rfl (by decide)) ?_
        refine o_step rfl (s_ld rfl (.own meA rfl)) ?_
        by_cases hkl : (k : Int) < x.kids
        ·
         refine o_step rfl (step_cast (v' := .bool true) (s_lss rfl rfl) (by rw [decide_eq_true (by omega)])) ?_
         refine o_nil ?_
         refine x_then (hK18 _ _ ?_)
         refine c_true rfl ?_
         refine c_skip ?_
         refine x_then (hK17 _ _ ?_)
         refine c_seq fun _ hK19 => ?_
         refine c_block ?_
         refine c_seq fun _ hK20 => ?_
         refine c_region ?_
         refine o_step rfl (s_move rfl) ?_
         refine o_step rfl (s_move rfl) ?_
         refine o_step rfl (s_add rfl rfl (by omega)) ?_
         refine o_step rfl (s_move rfl) ?_
         refine o_call (ih f1 rfl bx ra rc re i2 (wi + 1) g1 ea2 ec2 en2 Se2 hre (by omega) hi2 hel2 hgl.2.2.1 hO2) rfl rfl rfl ((Pick.takeC pkA pkA)) (fun w st => ⟨(RdK.old hw.1 hw.2).out w st, St.apart_M st (by exact hin_node) hw.1 hw.2 (by decide)⟩) (fun v122 S122 hv122 => ?_)
         rcases hst : shN re f1 i2 en2 g1 with _ | ⟨i3, en3⟩
         ·
          obtain rfl : v122 = .bool false := by rw [hst] at hv122; exact hv122
          have hN : shN re (f1 + 1) i en gr = none := shN_kids hx hgt (kidsN_none (kidsN_snoc hkn hst) (by omega))
          refine o_step rfl (s_not rfl) ?_
          refine o_nil ?_
          refine x_then (hK20 _ _ ?_)
          refine c_true rfl ?_
          refine c_seq fun _ hK21 => ?_
          refine c_region ?_
          refine o_step rfl (s_assign rfl) ?_
          refine o_nil ?_
          refine x_then (hK21 _ _ ?_)
          refine c_ret ?_
          refine x_block_ret (x_then_ret (x_then_ret (x_block_ret (x_then_ret (?_)))))
          exact x_ret rfl (.tmp rfl (.nil)) ((by rw [hN]; rfl))
         ·
          obtain ⟨hu122, ea3, ec3, Se3, rfl, hO3⟩ : v122 = .bool true ∧ ∃ ea3 ec3 Se3, S122 = LookB 99 bx ra rc re i3 ea3 ec3 en3 :: Se3 ∧ OwnS Ebo 1 4 (.slice ea3 en3.length ec3) en3 Se3 := by rw [hst] at hv122; exact hv122
          subst hu122
          unfold LookB
          refine o_step rfl (s_not rfl) ?_
          refine o_nil ?_
          refine x_then (hK20 _ _ ?_)
          refine c_false rfl ?_
          refine c_skip ?_
          refine x_block ?_
          refine x_then (hK19 _ _ ?_)
          refine c_region ?_
          refine o_step rfl (s_move rfl) ?_
          refine o_step rfl (s_add rfl rfl (by omega)) ?_
          refine o_step rfl (s_assign rfl) ?_
          refine o_nil ?_
          exact x_then (x_inv (k + 1, i3, en3, ea3, ec3, Se3) ⟨by omega, kidsN_snoc hkn hst, by have := shN_lt hst; dsimp only; omega, shN_le hst, (shN_len hel2 hgl.2.2.1 hst).2, by have := (shN_len hel2 hgl.2.2.1 hst).1; dsimp only; omega, hO3⟩ (by first | omega | (dsimp only; omega)) sbA hzB)
        ·
         obtain rfl : k = x.kids.toNat := by omega
         have hN := shN_some hx hok hgt hkn
         have hO2s := hO2.sl
         refine o_step rfl (step_cast (v' := .bool false) (s_lss rfl rfl) (by rw [decide_eq_false (by omega)])) ?_
         refine o_nil ?_
         refine x_then (hK18 _ _ ?_)
         refine c_false rfl ?_
         refine c_exit ?_
         refine x_then_exit ?_
         refine x_then_exit ?_
         refine x_block_exit ?_
         refine x_then (hK15 _ _ ?_)
         refine c_seq fun _ hK22 => ?_
         refine c_seq fun _ hK23 => ?_
         refine c_region ?_
         refine o_step rfl (s_move rfl) ?_
         by_cases k7 : x.op = 7
         ·
          have hg7 := hgl.2.2.2 k7
          refine o_step rfl (step_cast (v' := .bool true) (s_eql rfl rfl) (by rw [decide_eq_true (by omega)])) ?_
          refine o_nil ?_
          refine x_then (hK23 _ _ ?_)
          refine c_true rfl ?_
          refine c_drawE ((bx, .cells [.slice ra re.length rc, .int .i64 i2, .slice ea2 en2.length ec2].toArray 99 (0, 0)) :: (b7, .cells (En x).toArray 57 (0, 0)) :: Se2) (fun i => Nat.beq i 8) ?_
          refine e_take 0 rfl (by kernel_rfl) (by kernel_rfl) (by kernel_rfl) (by kernel_rfl) (fun _ _ => rfl) rfl hzB (s_move rfl) ?_
          refine e_take 1 rfl (by kernel_rfl) (by kernel_rfl) (by kernel_rfl) (by kernel_rfl) (fun _ _ => rfl) rfl hzB (s_nil rfl) ?_
          refine e_take 2 rfl (by kernel_rfl) (by kernel_rfl) (by kernel_rfl) (by kernel_rfl) (fun _ _ => rfl) rfl hzB (s_field rfl rfl (by decide)) ?_
          refine e_take 3 rfl (by kernel_rfl) (by kernel_rfl) (by kernel_rfl) (by kernel_rfl) (fun _ _ => rfl) rfl hzB (s_ld rfl (.own meA rfl)) ?_
          refine e_take 4 rfl (by kernel_rfl) (by kernel_rfl) (by kernel_rfl) (by kernel_rfl) (fun _ _ => rfl) rfl hzB (s_field rfl rfl (by decide)) ?_
          refine e_take 5 rfl (by kernel_rfl) (by kernel_rfl) (by kernel_rfl) (by kernel_rfl) (fun _ _ => rfl) rfl hzB (s_ld rfl (.own meA rfl)) ?_
          refine e_take 6 rfl (by kernel_rfl) (by kernel_rfl) (by kernel_rfl) (by kernel_rfl) (fun _ _ => rfl) rfl hzB (s_sub rfl rfl (by omega)) ?_
          refine e_take 7 rfl (by kernel_rfl) (by kernel_rfl) (by kernel_rfl) (by kernel_rfl) (fun _ _ => rfl) rfl hzB (s_idx rfl rfl hO2s (by omega)) ?_
          refine e_one 8 rfl (by kernel_rfl) ?_
          refine o_stS1 (x.n.toNat - 1) true hO2 pkA rfl rfl rfl (by omega) (by omega) fun S' hS' => ?_
          refine o_nil ?_
          refine x_oneL rfl ?_
          refine e_done (by kernel_rfl) ?_
          refine x_then (hK22 _ _ ?_)
          refine c_seq fun _ hK24 => ?_
          refine c_region ?_
          refine o_step rfl (s_assign rfl) ?_
          refine o_nil ?_
          refine x_then (hK24 _ _ ?_)
          refine c_ret ?_
          refine ?_
          refine x_sub (Sub.refl _) (H' := (bx, .cells [.slice ra re.length rc, .int .i64 i2, .slice ea2 en2.length ec2].toArray 99 (0, 0)) :: S') hzB ?_
          exact x_ret rfl (.tmp rfl (.nil)) ((by rw [hN, if_pos k7]; exact ⟨rfl, ea2, ec2, S', by unfold LookB; rw [List.length_set], by rw [List.length_set]; exact hS'⟩))
         ·
          refine o_step rfl (step_cast (v' := .bool false) (s_eql rfl rfl) (by rw [decide_eq_false (by omega)])) ?_
          refine o_nil ?_
          refine x_then (hK23 _ _ ?_)
          refine c_false rfl ?_
          refine c_skip ?_
          refine x_then (hK22 _ _ ?_)
          refine c_seq fun _ hK25 => ?_
          refine c_region ?_
          refine o_step rfl (s_assign rfl) ?_
          refine o_nil ?_
          refine x_then (hK25 _ _ ?_)
          refine c_ret ?_
          refine ?_
          refine x_sub (Sub.refl _) (H' := (bx, .cells [.slice ra re.length rc, .int .i64 i2, .slice ea2 en2.length ec2].toArray 99 (0, 0)) :: Se2) hzB ?_
          exact x_ret rfl (.tmp rfl (.nil)) ((by rw [hN, if_neg k7]; exact ⟨rfl, _, _, _, rfl, hO2⟩))
       ·
        intro _ hJ14
        refine c_seq fun _ hK26 => ?_
        refine c_region ?_
        refine o_step rfl (s_move rfl) ?_
        by_cases h7 : x.op = 7
        ·
         refine o_step rfl (step_cast (v' := .bool true) (s_eql rfl rfl) (by rw [decide_eq_true (by omega)])) ?_
         refine o_nil ?_
         refine x_then (hK26 _ _ ?_)
         refine c_true rfl ?_
         refine c_seq fun _ hK27 => ?_
         refine c_seq fun _ hK28 => ?_
         refine c_drawE ((bx, .cells [.slice ra re.length rc, .int .i64 (i + 1 : Nat), .slice ea en.length ec].toArray 99 (0, 0)) :: (b7, .cells (En x).toArray 57 (0, 0)) :: Se) (fun i => false) ?_
         refine e_take 0 rfl (by kernel_rfl) (by kernel_rfl) (by kernel_rfl) (by kernel_rfl) (fun _ _ => rfl) rfl hzB (s_field rfl rfl (by decide)) ?_
         refine e_take 1 rfl (by kernel_rfl) (by kernel_rfl) (by kernel_rfl) (by kernel_rfl) (fun _ _ => rfl) rfl hzB (s_ld rfl (.own meA rfl)) ?_
         refine e_take 2 rfl (by kernel_rfl) (by kernel_rfl) (by kernel_rfl) (by kernel_rfl) (fun _ _ => rfl) rfl hzB (s_move rfl) ?_
         refine e_take 3 rfl (by kernel_rfl) (by kernel_rfl) (by kernel_rfl) (by kernel_rfl) (fun _ _ => rfl) rfl hzB (s_nil rfl) ?_
         refine e_take 4 rfl (by kernel_rfl) (by kernel_rfl) (by kernel_rfl) (by kernel_rfl) (fun _ _ => rfl) rfl hzB (s_field rfl rfl (by decide)) ?_
         refine e_take 5 rfl (by kernel_rfl) (by kernel_rfl) (by kernel_rfl) (by kernel_rfl) (fun _ _ => rfl) rfl hzB (s_ld rfl (.own meA rfl)) ?_
         refine e_take 6 rfl (by kernel_rfl) (by kernel_rfl) (by kernel_rfl) (by kernel_rfl) (fun _ _ => rfl) rfl hzB (s_len rfl) ?_
         refine e_take 7 rfl (by kernel_rfl) (by kernel_rfl) (by kernel_rfl) (by kernel_rfl) (fun _ _ => rfl) rfl hzB (s_add rfl rfl (by omega)) ?_
         by_cases hn1 : x.n ≠ en.length + 1
         ·
          have hN : shN re (f1 + 1) i en gr = none := shN_gate hx (gate_no7 h7 (by omega))
          refine e_take 8 rfl (by kernel_rfl) (by kernel_rfl) (by kernel_rfl) (by kernel_rfl) (fun _ _ => rfl) rfl hzB (step_cast (v' := .bool true) (s_neq rfl rfl) (by rw [decide_eq_true (by omega)])) ?_
          refine e_take 9 rfl (by kernel_rfl) (by kernel_rfl) (by kernel_rfl) (by kernel_rfl) (fun _ _ => rfl) rfl hzB (s_move rfl) ?_
          refine e_skip 10 rfl (by kernel_rfl) (by kernel_rfl) (by kernel_rfl) rfl rfl rfl rfl ?_
          refine e_skip 11 rfl (by kernel_rfl) (by kernel_rfl) (by kernel_rfl) rfl rfl rfl rfl ?_
          refine e_skip 12 rfl (by kernel_rfl) (by kernel_rfl) (by kernel_rfl) rfl rfl rfl rfl ?_
          refine e_take 13 rfl (by kernel_rfl) (by kernel_rfl) (by kernel_rfl) (by kernel_rfl) (fun _ _ => rfl) rfl hzB (s_pick_t rfl rfl) ?_
          refine e_take 14 rfl (by kernel_rfl) (by kernel_rfl) (by kernel_rfl) (by kernel_rfl) (fun _ _ => rfl) rfl hzB (s_move rfl) ?_
          refine e_skip 15 rfl (by kernel_rfl) (by kernel_rfl) (by kernel_rfl) rfl rfl rfl rfl ?_
          refine e_skip 16 rfl (by kernel_rfl) (by kernel_rfl) (by kernel_rfl) rfl rfl rfl rfl ?_
          refine e_take 17 rfl (by kernel_rfl) (by kernel_rfl) (by kernel_rfl) (by kernel_rfl) (fun _ _ => rfl) rfl hzB (s_pick_t rfl rfl) ?_
          refine e_done (by kernel_rfl) ?_
          refine x_then (hK28 _ _ ?_)
          refine c_true rfl ?_
          refine c_seq fun _ hK29 => ?_
          refine c_region ?_
          refine o_step rfl (s_assign rfl) ?_
          refine o_nil ?_
          refine x_then (hK29 _ _ ?_)
          refine c_ret ?_
          refine x_then_ret (x_then_ret (?_))
          exact x_ret rfl (.tmp rfl (.nil)) ((by rw [hN]; rfl))
         ·
          refine e_take 8 rfl (by kernel_rfl) (by kernel_rfl) (by kernel_rfl) (by kernel_rfl) (fun _ _ => rfl) rfl hzB (step_cast (v' := .bool false) (s_neq rfl rfl) (by rw [decide_eq_false (by omega)])) ?_
          refine e_take 9 rfl (by kernel_rfl) (by kernel_rfl) (by kernel_rfl) (by kernel_rfl) (fun _ _ => rfl) rfl hzB (s_move rfl) ?_
          refine e_take 10 rfl (by kernel_rfl) (by kernel_rfl) (by kernel_rfl) (by kernel_rfl) (fun _ fr => by rw [wanted_of fr rfl rfl rfl]; rfl) rfl hzB (s_field rfl rfl (by decide)) ?_
          refine e_take 11 rfl (by kernel_rfl) (by kernel_rfl) (by kernel_rfl) (by kernel_rfl) (fun _ fr => by rw [wanted_of fr rfl rfl rfl]; rfl) rfl hzB (s_ld rfl (.own meA rfl)) ?_
          by_cases hn2 : x.n > 255
          ·
           have hN : shN re (f1 + 1) i en gr = none := shN_gate hx (gate_no7 h7 (by omega))
           refine e_take 12 rfl (by kernel_rfl) (by kernel_rfl) (by kernel_rfl) (by kernel_rfl) (fun _ fr => by rw [wanted_of fr rfl rfl rfl]; rfl) rfl hzB (step_cast (v' := .bool true) (s_gtr rfl rfl) (by rw [decide_eq_true (by omega)])) ?_
           refine e_take 13 rfl (by kernel_rfl) (by kernel_rfl) (by kernel_rfl) (by kernel_rfl) (fun _ _ => rfl) rfl hzB (s_pick_f rfl rfl) ?_
           refine e_take 14 rfl (by kernel_rfl) (by kernel_rfl) (by kernel_rfl) (by kernel_rfl) (fun _ _ => rfl) rfl hzB (s_move rfl) ?_
           refine e_skip 15 rfl (by kernel_rfl) (by kernel_rfl) (by kernel_rfl) rfl rfl rfl rfl ?_
           refine e_skip 16 rfl (by kernel_rfl) (by kernel_rfl) (by kernel_rfl) rfl rfl rfl rfl ?_
           refine e_take 17 rfl (by kernel_rfl) (by kernel_rfl) (by kernel_rfl) (by kernel_rfl) (fun _ _ => rfl) rfl hzB (s_pick_t rfl rfl) ?_
           refine e_done (by kernel_rfl) ?_
           refine x_then (hK28 _ _ ?_)
           refine c_true rfl ?_
           refine c_seq fun _ hK30 => ?_
           refine c_region ?_
           refine o_step rfl (s_assign rfl) ?_
           refine o_nil ?_
           refine x_then (hK30 _ _ ?_)
           refine c_ret ?_
           refine x_then_ret (x_then_ret (?_))
           exact x_ret rfl (.tmp rfl (.nil)) ((by rw [hN]; rfl))
          ·
           refine e_take 12 rfl (by kernel_rfl) (by kernel_rfl) (by kernel_rfl) (by kernel_rfl) (fun _ fr => by rw [wanted_of fr rfl rfl rfl]; rfl) rfl hzB (step_cast (v' := .bool false) (s_gtr rfl rfl) (by rw [decide_eq_false (by omega)])) ?_
           refine e_take 13 rfl (by kernel_rfl) (by kernel_rfl) (by kernel_rfl) (by kernel_rfl) (fun _ _ => rfl) rfl hzB (s_pick_f rfl rfl) ?_
           refine e_take 14 rfl (by kernel_rfl) (by kernel_rfl) (by kernel_rfl) (by kernel_rfl) (fun _ _ => rfl) rfl hzB (s_move rfl) ?_
           refine e_take 15 rfl (by kernel_rfl) (by kernel_rfl) (by kernel_rfl) (by kernel_rfl) (fun _ fr => by rw [wanted_of fr rfl rfl rfl]; rfl) rfl hzB (s_move rfl) ?_
           by_cases hn3 : (gr : Int) ≥ 64
           ·
            have hN : shN re (f1 + 1) i en gr = none := shN_gate hx (gate_no7 h7 (by omega))
            refine e_take 16 rfl (by kernel_rfl) (by kernel_rfl) (by kernel_rfl) (by kernel_rfl) (fun _ fr => by rw [wanted_of fr rfl rfl rfl]; rfl) rfl hzB (step_cast (v' := .bool true) (s_geq rfl rfl) (by rw [decide_eq_true (by omega)])) ?_
            refine e_take 17 rfl (by kernel_rfl) (by kernel_rfl) (by kernel_rfl) (by kernel_rfl) (fun _ _ => rfl) rfl hzB (s_pick_f rfl rfl) ?_
            refine e_done (by kernel_rfl) ?_
            refine x_then (hK28 _ _ ?_)
            refine c_true rfl ?_
            refine c_seq fun _ hK31 => ?_
            refine c_region ?_
            refine o_step rfl (s_assign rfl) ?_
            refine o_nil ?_
            refine x_then (hK31 _ _ ?_)
            refine c_ret ?_
            refine x_then_ret (x_then_ret (?_))
            exact x_ret rfl (.tmp rfl (.nil)) ((by rw [hN]; rfl))
           ·
            refine e_take 16 rfl (by kernel_rfl) (by kernel_rfl) (by kernel_rfl) (by kernel_rfl) (fun _ fr => by rw [wanted_of fr rfl rfl rfl]; rfl) rfl hzB (step_cast (v' := .bool false) (s_geq rfl rfl) (by rw [decide_eq_false (by omega)])) ?_
            refine e_take 17 rfl (by kernel_rfl) (by kernel_rfl) (by kernel_rfl) (by kernel_rfl) (fun _ _ => rfl) rfl hzB (s_pick_f rfl rfl) ?_
            refine e_done (by kernel_rfl) ?_
            refine x_then (hK28 _ _ ?_)
            refine c_false rfl ?_
            refine c_skip ?_
            refine x_then (hK27 _ _ ?_)
            refine c_seq fun _ hK32 => ?_
            refine c_region ?_
            refine o_step rfl (s_move rfl) ?_
            refine o_step rfl (s_move rfl) ?_
            refine o_step rfl (s_nil rfl) ?_
            refine o_step rfl (s_field rfl rfl (by decide)) ?_
            refine o_step rfl (s_ld rfl (.own meA rfl)) ?_
            refine o_bs (E := Ebo) (xs := [false]) (vs := [_]) rfl rfl rfl rfl rfl (by decide) (by decide) fun b106 S106 hS106 => ?_
            refine o_app hO (hS106.rdk hiA) rfl rfl rfl rfl (by simp only [List.length_singleton]; omega) (by simp only [List.length_singleton]; omega) rfl pkA fun a107 c107 S107 hS107 => ?_
            refine o_step rfl (s_nil rfl) ?_
            refine o_step rfl (s_field rfl rfl (by decide)) ?_
            refine o_store rfl rfl rfl upA ltA rfl ?_
            dsimp only [List.set]
            refine o_nil ?_
            refine x_then (hK32 _ _ ?_)
            refine c_region ?_
            refine o_step rfl (s_move rfl) ?_
            refine o_step rfl (s_add rfl rfl (by omega)) ?_
            refine o_step rfl (s_assign rfl) ?_
            refine o_nil ?_
            exact x_then (hJ14 (en ++ [false], gr + 1, a107, c107, S107) _ _ ⟨gate_grp h7 ⟨by omega, by omega, by omega⟩, hS107⟩ sbA sbA hzB)
        ·
         refine o_step rfl (step_cast (v' := .bool false) (s_eql rfl rfl) (by rw [decide_eq_false (by omega)])) ?_
         refine o_nil ?_
         refine x_then (hK26 _ _ ?_)
         refine c_false rfl ?_
         refine c_skip ?_
         exact x_then (hJ14 (en, gr, ea, ec, Se) _ _ ⟨gate_not7 h7 hg8, hO⟩ sbA sbA hzB)
      ·
       intro _ hJ13
       refine c_seq fun _ hK33 => ?_
       refine c_drawE ((bx, .cells [.slice ra re.length rc, .int .i64 (i + 1 : Nat), .slice ea en.length ec].toArray 99 (0, 0)) :: (b7, .cells (En x).toArray 57 (0, 0)) :: Se) (fun i => false) ?_
       refine e_take 0 rfl (by kernel_rfl) (by kernel_rfl) (by kernel_rfl) (by kernel_rfl) (fun _ _ => rfl) rfl hzB (s_move rfl) ?_
       by_cases h8 : x.op = 8
       ·
        refine e_take 1 rfl (by kernel_rfl) (by kernel_rfl) (by kernel_rfl) (by kernel_rfl) (fun _ _ => rfl) rfl hzB (step_cast (v' := .bool true) (s_eql rfl rfl) (by rw [decide_eq_true (by omega)])) ?_
        refine e_take 2 rfl (by kernel_rfl) (by kernel_rfl) (by kernel_rfl) (by kernel_rfl) (fun _ _ => rfl) rfl hzB (s_move rfl) ?_
        refine e_take 3 rfl (by kernel_rfl) (by kernel_rfl) (by kernel_rfl) (by kernel_rfl) (fun _ fr => by rw [wanted_of fr rfl rfl rfl]; rfl) rfl hzB (s_field rfl rfl (by decide)) ?_
        refine e_take 4 rfl (by kernel_rfl) (by kernel_rfl) (by kernel_rfl) (by kernel_rfl) (fun _ fr => by rw [wanted_of fr rfl rfl rfl]; rfl) rfl hzB (s_ld rfl (.own meA rfl)) ?_
        by_cases hn1 : x.n < 1
        ·
         have hN : shN re (f1 + 1) i en gr = none := shN_gate hx (gate_no8 h8 (by omega))
         refine e_take 5 rfl (by kernel_rfl) (by kernel_rfl) (by kernel_rfl) (by kernel_rfl) (fun _ fr => by rw [wanted_of fr rfl rfl rfl]; rfl) rfl hzB (step_cast (v' := .bool true) (s_lss rfl rfl) (by rw [decide_eq_true (by omega)])) ?_
         refine e_take 6 rfl (by kernel_rfl) (by kernel_rfl) (by kernel_rfl) (by kernel_rfl) (fun _ fr => by rw [wanted_of fr rfl rfl rfl]; rfl) rfl hzB (s_move rfl) ?_
         refine e_skip 7 rfl (by kernel_rfl) (by kernel_rfl) (by kernel_rfl) rfl rfl rfl rfl ?_
         refine e_skip 8 rfl (by kernel_rfl) (by kernel_rfl) (by kernel_rfl) rfl rfl rfl rfl ?_
         refine e_skip 9 rfl (by kernel_rfl) (by kernel_rfl) (by kernel_rfl) rfl rfl rfl rfl ?_
         refine e_skip 10 rfl (by kernel_rfl) (by kernel_rfl) (by kernel_rfl) rfl rfl rfl rfl ?_
         refine e_skip 11 rfl (by kernel_rfl) (by kernel_rfl) (by kernel_rfl) rfl rfl rfl rfl ?_
         refine e_skip 12 rfl (by kernel_rfl) (by kernel_rfl) (by kernel_rfl) rfl rfl rfl rfl ?_
         refine e_skip 13 rfl (by kernel_rfl) (by kernel_rfl) (by kernel_rfl) rfl rfl rfl rfl ?_
         refine e_skip 14 rfl (by kernel_rfl) (by kernel_rfl) (by kernel_rfl) rfl rfl rfl rfl ?_
         refine e_take 15 rfl (by kernel_rfl) (by kernel_rfl) (by kernel_rfl) (by kernel_rfl) (fun _ fr => by rw [wanted_of fr rfl rfl rfl]; rfl) rfl hzB (s_pick_t rfl rfl) ?_
         refine e_take 16 rfl (by kernel_rfl) (by kernel_rfl) (by kernel_rfl) (by kernel_rfl) (fun _ fr => by rw [wanted_of fr rfl rfl rfl]; rfl) rfl hzB (s_move rfl) ?_
         refine e_skip 17 rfl (by kernel_rfl) (by kernel_rfl) (by kernel_rfl) rfl rfl rfl rfl ?_
         refine e_skip 18 rfl (by kernel_rfl) (by kernel_rfl) (by kernel_rfl) rfl rfl rfl rfl ?_
         refine e_skip 19 rfl (by kernel_rfl) (by kernel_rfl) (by kernel_rfl) rfl rfl rfl rfl ?_
         refine e_skip 20 rfl (by kernel_rfl) (by kernel_rfl) (by kernel_rfl) rfl rfl rfl rfl ?_
         refine e_skip 21 rfl (by kernel_rfl) (by kernel_rfl) (by kernel_rfl) rfl rfl rfl rfl ?_
         refine e_skip 22 rfl (by kernel_rfl) (by kernel_rfl) (by kernel_rfl) rfl rfl rfl rfl ?_
         refine e_skip 23 rfl (by kernel_rfl) (by kernel_rfl) (by kernel_rfl) rfl rfl rfl rfl ?_
         refine e_skip 24 rfl (by kernel_rfl) (by kernel_rfl) (by kernel_rfl) rfl rfl rfl rfl ?_
         refine e_skip 25 rfl (by kernel_rfl) (by kernel_rfl) (by kernel_rfl) rfl rfl rfl rfl ?_
         refine e_skip 26 rfl (by kernel_rfl) (by kernel_rfl) (by kernel_rfl) rfl rfl rfl rfl ?_
         refine e_take 27 rfl (by kernel_rfl) (by kernel_rfl) (by kernel_rfl) (by kernel_rfl) (fun _ fr => by rw [wanted_of fr rfl rfl rfl]; rfl) rfl hzB (s_pick_t rfl rfl) ?_
         refine e_take 28 rfl (by kernel_rfl) (by kernel_rfl) (by kernel_rfl) (by kernel_rfl) (fun _ _ => rfl) rfl hzB (s_pick_t rfl rfl) ?_
         refine e_done (by kernel_rfl) ?_
         refine x_then (hK33 _ _ ?_)
         refine c_true rfl ?_
         refine c_seq fun _ hK34 => ?_
         refine c_region ?_
         refine o_step rfl (s_assign rfl) ?_
         refine o_nil ?_
         refine x_then (hK34 _ _ ?_)
         refine c_ret ?_
         refine x_then_ret (?_)
         exact x_ret rfl (.tmp rfl (.nil)) ((by rw [hN]; rfl))
        ·
         refine e_take 5 rfl (by kernel_rfl) (by kernel_rfl) (by kernel_rfl) (by kernel_rfl) (fun _ fr => by rw [wanted_of fr rfl rfl rfl]; rfl) rfl hzB (step_cast (v' := .bool false) (s_lss rfl rfl) (by rw [decide_eq_false (by omega)])) ?_
         refine e_take 6 rfl (by kernel_rfl) (by kernel_rfl) (by kernel_rfl) (by kernel_rfl) (fun _ fr => by rw [wanted_of fr rfl rfl rfl]; rfl) rfl hzB (s_move rfl) ?_
         refine e_take 7 rfl (by kernel_rfl) (by kernel_rfl) (by kernel_rfl) (by kernel_rfl) (fun _ fr => by rw [wanted_of fr rfl rfl rfl]; rfl) rfl hzB (s_field rfl rfl (by decide)) ?_
         refine e_take 8 rfl (by kernel_rfl) (by kernel_rfl) (by kernel_rfl) (by kernel_rfl) (fun _ fr => by rw [wanted_of fr rfl rfl rfl]; rfl) rfl hzB (s_ld rfl (.own meA rfl)) ?_
         refine e_take 9 rfl (by kernel_rfl) (by kernel_rfl) (by kernel_rfl) (by kernel_rfl) (fun _ fr => by rw [wanted_of fr rfl rfl rfl]; rfl) rfl hzB (s_move rfl) ?_
         refine e_take 10 rfl (by kernel_rfl) (by kernel_rfl) (by kernel_rfl) (by kernel_rfl) (fun _ fr => by rw [wanted_of fr rfl rfl rfl]; rfl) rfl hzB (s_nil rfl) ?_
         refine e_take 11 rfl (by kernel_rfl) (by kernel_rfl) (by kernel_rfl) (by kernel_rfl) (fun _ fr => by rw [wanted_of fr rfl rfl rfl]; rfl) rfl hzB (s_field rfl rfl (by decide)) ?_
         refine e_take 12 rfl (by kernel_rfl) (by kernel_rfl) (by kernel_rfl) (by kernel_rfl) (fun _ fr => by rw [wanted_of fr rfl rfl rfl]; rfl) rfl hzB (s_ld rfl (.own meA rfl)) ?_
         refine e_take 13 rfl (by kernel_rfl) (by kernel_rfl) (by kernel_rfl) (by kernel_rfl) (fun _ fr => by rw [wanted_of fr rfl rfl rfl]; rfl) rfl hzB (s_len rfl) ?_
         by_cases hn2 : x.n > en.length
         ·
          have hN : shN re (f1 + 1) i en gr = none := shN_gate hx (gate_no8 h8 (by omega))
          refine e_take 14 rfl (by kernel_rfl) (by kernel_rfl) (by kernel_rfl) (by kernel_rfl) (fun _ fr => by rw [wanted_of fr rfl rfl rfl]; rfl) rfl hzB (step_cast (v' := .bool true) (s_gtr rfl rfl) (by rw [decide_eq_true (by omega)])) ?_
          refine e_take 15 rfl (by kernel_rfl) (by kernel_rfl) (by kernel_rfl) (by kernel_rfl) (fun _ fr => by rw [wanted_of fr rfl rfl rfl]; rfl) rfl hzB (s_pick_f rfl rfl) ?_
          refine e_take 16 rfl (by kernel_rfl) (by kernel_rfl) (by kernel_rfl) (by kernel_rfl) (fun _ fr => by rw [wanted_of fr rfl rfl rfl]; rfl) rfl hzB (s_move rfl) ?_
          refine e_skip 17 rfl (by kernel_rfl) (by kernel_rfl) (by kernel_rfl) rfl rfl rfl rfl ?_
          refine e_skip 18 rfl (by kernel_rfl) (by kernel_rfl) (by kernel_rfl) rfl rfl rfl rfl ?_
          refine e_skip 19 rfl (by kernel_rfl) (by kernel_rfl) (by kernel_rfl) rfl rfl rfl rfl ?_
          refine e_skip 20 rfl (by kernel_rfl) (by kernel_rfl) (by kernel_rfl) rfl rfl rfl rfl ?_
          refine e_skip 21 rfl (by kernel_rfl) (by kernel_rfl) (by kernel_rfl) rfl rfl rfl rfl ?_
          refine e_skip 22 rfl (by kernel_rfl) (by kernel_rfl) (by kernel_rfl) rfl rfl rfl rfl ?_
          refine e_skip 23 rfl (by kernel_rfl) (by kernel_rfl) (by kernel_rfl) rfl rfl rfl rfl ?_
          refine e_skip 24 rfl (by kernel_rfl) (by kernel_rfl) (by kernel_rfl) rfl rfl rfl rfl ?_
          refine e_skip 25 rfl (by kernel_rfl) (by kernel_rfl) (by kernel_rfl) rfl rfl rfl rfl ?_
          refine e_skip 26 rfl (by kernel_rfl) (by kernel_rfl) (by kernel_rfl) rfl rfl rfl rfl ?_
          refine e_take 27 rfl (by kernel_rfl) (by kernel_rfl) (by kernel_rfl) (by kernel_rfl) (fun _ fr => by rw [wanted_of fr rfl rfl rfl]; rfl) rfl hzB (s_pick_t rfl rfl) ?_
          refine e_take 28 rfl (by kernel_rfl) (by kernel_rfl) (by kernel_rfl) (by kernel_rfl) (fun _ _ => rfl) rfl hzB (s_pick_t rfl rfl) ?_
          refine e_done (by kernel_rfl) ?_
          refine x_then (hK33 _ _ ?_)
          refine c_true rfl ?_
          refine c_seq fun _ hK35 => ?_
          refine c_region ?_
          refine o_step rfl (s_assign rfl) ?_
          refine o_nil ?_
          refine x_then (hK35 _ _ ?_)
          refine c_ret ?_
          refine x_then_ret (?_)
          exact x_ret rfl (.tmp rfl (.nil)) ((by rw [hN]; rfl))
         ·
          refine e_take 14 rfl (by kernel_rfl) (by kernel_rfl) (by kernel_rfl) (by kernel_rfl) (fun _ fr => by rw [wanted_of fr rfl rfl rfl]; rfl) rfl hzB (step_cast (v' := .bool false) (s_gtr rfl rfl) (by rw [decide_eq_false (by omega)])) ?_
          refine e_take 15 rfl (by kernel_rfl) (by kernel_rfl) (by kernel_rfl) (by kernel_rfl) (fun _ fr => by rw [wanted_of fr rfl rfl rfl]; rfl) rfl hzB (s_pick_f rfl rfl) ?_
          refine e_take 16 rfl (by kernel_rfl) (by kernel_rfl) (by kernel_rfl) (by kernel_rfl) (fun _ fr => by rw [wanted_of fr rfl rfl rfl]; rfl) rfl hzB (s_move rfl) ?_
          refine e_take 17 rfl (by kernel_rfl) (by kernel_rfl) (by kernel_rfl) (by kernel_rfl) (fun _ fr => by rw [wanted_of fr rfl rfl rfl]; rfl) rfl hzB (s_move rfl) ?_
          refine e_take 18 rfl (by kernel_rfl) (by kernel_rfl) (by kernel_rfl) (by kernel_rfl) (fun _ fr => by rw [wanted_of fr rfl rfl rfl]; rfl) rfl hzB (s_nil rfl) ?_
          refine e_take 19 rfl (by kernel_rfl) (by kernel_rfl) (by kernel_rfl) (by kernel_rfl) (fun _ fr => by rw [wanted_of fr rfl rfl rfl]; rfl) rfl hzB (s_field rfl rfl (by decide)) ?_
          refine e_take 20 rfl (by kernel_rfl) (by kernel_rfl) (by kernel_rfl) (by kernel_rfl) (fun _ fr => by rw [wanted_of fr rfl rfl rfl]; rfl) rfl hzB (s_ld rfl (.own meA rfl)) ?_
          refine e_take 21 rfl (by kernel_rfl) (by kernel_rfl) (by kernel_rfl) (by kernel_rfl) (fun _ fr => by rw [wanted_of fr rfl rfl rfl]; rfl) rfl hzB (s_field rfl rfl (by decide)) ?_
          refine e_take 22 rfl (by kernel_rfl) (by kernel_rfl) (by kernel_rfl) (by kernel_rfl) (fun _ fr => by rw [wanted_of fr rfl rfl rfl]; rfl) rfl hzB (s_ld rfl (.own meA rfl)) ?_
          refine e_take 23 rfl (by kernel_rfl) (by kernel_rfl) (by kernel_rfl) (by kernel_rfl) (fun _ fr => by rw [wanted_of fr rfl rfl rfl]; rfl) rfl hzB (s_sub rfl rfl (by omega)) ?_
          refine e_take 24 rfl (by kernel_rfl) (by kernel_rfl) (by kernel_rfl) (by kernel_rfl) (fun _ fr => by rw [wanted_of fr rfl rfl rfl]; rfl) rfl hzB (s_idx rfl rfl hOs (by omega)) ?_
          by_cases hb : en[x.n.toNat - 1]? = some true
          ·
           refine e_take 25 rfl (by kernel_rfl) (by kernel_rfl) (by kernel_rfl) (by kernel_rfl) (fun _ fr => by rw [wanted_of fr rfl rfl rfl]; rfl) rfl hzB (s_ld rfl ((hO.rdk hiA).ld (x.n.toNat - 1) 0 hb rfl (by decide) (by omega))) ?_
           refine e_take 26 rfl (by kernel_rfl) (by kernel_rfl) (by kernel_rfl) (by kernel_rfl) (fun _ fr => by rw [wanted_of fr rfl rfl rfl]; rfl) rfl hzB (s_not rfl) ?_
           refine e_take 27 rfl (by kernel_rfl) (by kernel_rfl) (by kernel_rfl) (by kernel_rfl) (fun _ fr => by rw [wanted_of fr rfl rfl rfl]; rfl) rfl hzB (s_pick_f rfl rfl) ?_
           refine e_take 28 rfl (by kernel_rfl) (by kernel_rfl) (by kernel_rfl) (by kernel_rfl) (fun _ _ => rfl) rfl hzB (s_pick_t rfl rfl) ?_
           refine e_done (by kernel_rfl) ?_
           refine x_then (hK33 _ _ ?_)
           refine c_false rfl ?_
           refine c_skip ?_
           exact x_then (hJ13 () _ _ (fun _ => ⟨by omega, by omega, hb⟩) sbA sbA hzB)
          ·
           have hN : shN re (f1 + 1) i en gr = none := shN_gate hx (gate_no8 h8 (fun h => hb h.2.2))
           have hb2 := get_false hb (by omega)
           refine e_take 25 rfl (by kernel_rfl) (by kernel_rfl) (by kernel_rfl) (by kernel_rfl) (fun _ fr => by rw [wanted_of fr rfl rfl rfl]; rfl) rfl hzB (s_ld rfl ((hO.rdk hiA).ld (x.n.toNat - 1) 0 hb2 rfl (by decide) (by omega))) ?_
           refine e_take 26 rfl (by kernel_rfl) (by kernel_rfl) (by kernel_rfl) (by kernel_rfl) (fun _ fr => by rw [wanted_of fr rfl rfl rfl]; rfl) rfl hzB (s_not rfl) ?_
           refine e_take 27 rfl (by kernel_rfl) (by kernel_rfl) (by kernel_rfl) (by kernel_rfl) (fun _ fr => by rw [wanted_of fr rfl rfl rfl]; rfl) rfl hzB (s_pick_f rfl rfl) ?_
           refine e_take 28 rfl (by kernel_rfl) (by kernel_rfl) (by kernel_rfl) (by kernel_rfl) (fun _ _ => rfl) rfl hzB (s_pick_t rfl rfl) ?_
           refine e_done (by kernel_rfl) ?_
           refine x_then (hK33 _ _ ?_)
           refine c_true rfl ?_
           refine c_seq fun _ hK36 => ?_
           refine c_region ?_
           refine o_step rfl (s_assign rfl) ?_
           refine o_nil ?_
           refine x_then (hK36 _ _ ?_)
           refine c_ret ?_
           refine x_then_ret (?_)
           exact x_ret rfl (.tmp rfl (.nil)) ((by rw [hN]; rfl))
       ·
        refine e_take 1 rfl (by kernel_rfl) (by kernel_rfl) (by kernel_rfl) (by kernel_rfl) (fun _ _ => rfl) rfl hzB (step_cast (v' := .bool false) (s_eql rfl rfl) (by rw [decide_eq_false (by omega)])) ?_
        refine e_take 2 rfl (by kernel_rfl) (by kernel_rfl) (by kernel_rfl) (by kernel_rfl) (fun _ _ => rfl) rfl hzB (s_move rfl) ?_
        refine e_skip 3 rfl (by kernel_rfl) (by kernel_rfl) (by kernel_rfl) rfl rfl rfl rfl ?_
        refine e_skip 4 rfl (by kernel_rfl) (by kernel_rfl) (by kernel_rfl) rfl rfl rfl rfl ?_
        refine e_skip 5 rfl (by kernel_rfl) (by kernel_rfl) (by kernel_rfl) rfl rfl rfl rfl ?_
        refine e_skip 6 rfl (by kernel_rfl) (by kernel_rfl) (by kernel_rfl) rfl rfl rfl rfl ?_
        refine e_skipU 7 rfl (by kernel_rfl) (by kernel_rfl) (by kernel_rfl) rfl rfl rfl ?_
        refine e_skipU 8 rfl (by kernel_rfl) (by kernel_rfl) (by kernel_rfl) rfl rfl rfl ?_
        refine e_skipU 9 rfl (by kernel_rfl) (by kernel_rfl) (by kernel_rfl) rfl rfl rfl ?_
        refine e_skipU 10 rfl (by kernel_rfl) (by kernel_rfl) (by kernel_rfl) rfl rfl rfl ?_
        refine e_skipU 11 rfl (by kernel_rfl) (by kernel_rfl) (by kernel_rfl) rfl rfl rfl ?_
        refine e_skipU 12 rfl (by kernel_rfl) (by kernel_rfl) (by kernel_rfl) rfl rfl rfl ?_
        refine e_skipU 13 rfl (by kernel_rfl) (by kernel_rfl) (by kernel_rfl) rfl rfl rfl ?_
        refine e_skipU 14 rfl (by kernel_rfl) (by kernel_rfl) (by kernel_rfl) rfl rfl rfl ?_
        refine e_skip 15 rfl (by kernel_rfl) (by kernel_rfl) (by kernel_rfl) rfl rfl rfl rfl ?_
        refine e_skip 16 rfl (by kernel_rfl) (by kernel_rfl) (by kernel_rfl) rfl rfl rfl rfl ?_
        refine e_skipU 17 rfl (by kernel_rfl) (by kernel_rfl) (by kernel_rfl) rfl rfl rfl ?_
        refine e_skipU 18 rfl (by kernel_rfl) (by kernel_rfl) (by kernel_rfl) rfl rfl rfl ?_
        refine e_skipU 19 rfl (by kernel_rfl) (by kernel_rfl) (by kernel_rfl) rfl rfl rfl ?_
        refine e_skipU 20 rfl (by kernel_rfl) (by kernel_rfl) (by kernel_rfl) rfl rfl rfl ?_
        refine e_skipU 21 rfl (by kernel_rfl) (by kernel_rfl) (by kernel_rfl) rfl rfl rfl ?_
        refine e_skipU 22 rfl (by kernel_rfl) (by kernel_rfl) (by kernel_rfl) rfl rfl rfl ?_
        refine e_skipU 23 rfl (by kernel_rfl) (by kernel_rfl) (by kernel_rfl) rfl rfl rfl ?_
        refine e_skipU 24 rfl (by kernel_rfl) (by kernel_rfl) (by kernel_rfl) rfl rfl rfl ?_
        refine e_skipU 25 rfl (by kernel_rfl) (by kernel_rfl) (by kernel_rfl) rfl rfl rfl ?_
        refine e_skipU 26 rfl (by kernel_rfl) (by kernel_rfl) (by kernel_rfl) rfl rfl rfl ?_
        refine e_skip 27 rfl (by kernel_rfl) (by kernel_rfl) (by kernel_rfl) rfl rfl rfl rfl ?_
        refine e_take 28 rfl (by kernel_rfl) (by kernel_rfl) (by kernel_rfl) (by kernel_rfl) (fun _ _ => rfl) rfl hzB (s_pick_f rfl rfl) ?_
        refine e_done (by kernel_rfl) ?_
        refine x_then (hK33 _ _ ?_)
        refine c_false rfl ?_
        refine c_skip ?_
        exact x_then (hJ13 () _ _ (fun h => absurd h h8) sbA sbA hzB)
theorem node_fn : ∀ f, NodeC Tryd.prog 78 125 f := by
  intro f
  induction f with
  | zero => exact fun bx ra rc re i wi g ea ec en Se h1 h2 h3 h4 h5 h6 => node_step 0 (fun f1 h => by omega) bx ra rc re i wi g ea ec en Se h1 h2 h3 h4 h5 h6
  | succ f ih => exact fun bx ra rc re i wi g ea ec en Se h1 h2 h3 h4 h5 h6 => node_step (f + 1) (fun f1 h => (Nat.succ.inj h) ▸ ih) bx ra rc re i wi g ea ec en Se h1 h2 h3 h4 h5 h6
theorem rNode_fn : ∀ f, NodeC Tryd.prog 64 99 f := by
  intro f
  induction f with
  | zero => exact fun bx ra rc re i wi g ea ec en Se h1 h2 h3 h4 h5 h6 => rNode_step 0 (fun f1 h => by omega) bx ra rc re i wi g ea ec en Se h1 h2 h3 h4 h5 h6
  | succ f ih => exact fun bx ra rc re i wi g ea ec en Se h1 h2 h3 h4 h5 h6 => rNode_step (f + 1) (fun f1 h => (Nat.succ.inj h) ▸ ih) bx ra rc re i wi g ea ec en Se h1 h2 h3 h4 h5 h6
set_option maxHeartbeats 1000000 in
theorem weigh_step (x : Nd) (ks : F) (ih : ∀ y ks1, ks1.size < ks.size → WeighC Tryd.prog 79 y ks1) (ra : Option Addr) (rc : Nat) (re : List Nd) (i i1 : Nat) (hre : ∀ x ∈ re, -128 ≤ x.op ∧ x.op < 128) (hp : Part re (.nd x ks .nil) i i1) : HL.Fn Tryd.prog 79 [.slice ra re.length rc, .int .i64 i] (fun w => Rd En w (.slice ra re.length rc) re) [] (fun v _ => v = .tuple #[.int .i64 (cut (F.nd x ks .nil).weight), .int .i64 i1]) := by
  refine fn_of Tryd.func79 rfl rfl rfl fun w0 hw => ?_
  have hsl := hw.sl
  have hbl := hsl.le
  obtain ⟨hx, hpk, hpn⟩ := hp.head
  have hii : i1 = i + 1 + ks.size := by simpa [F.size] using hpn.len
  have hile := hp.le
  have hok : ndOk x = true := hp.wf.1
  have hk0 := ndOk_kids hok
  have hkn : (ks.num : Int) = x.kids := hp.wf.2.1
  have hop := hre x (List.mem_of_getElem? hx)
  have hilt : i < re.length := (List.getElem?_eq_some_iff.1 hx).1
  have htl := times_le hok
  have htp := times_pos x
  have hns := F.num_le ks
  have hpkl := hpk.le
  rw [← hii] at hpk
  refine c_seq fun _ hK1 => ?_
  refine c_region ?_
  refine o_step rfl (s_assign rfl) ?_
  refine o_step rfl (s_assign rfl) ?_
  refine o_nil ?_
  refine x_then (hK1 _ _ ?_)
  refine c_seq fun _ hK2 => ?_
  refine c_region ?_
  refine o_step rfl (s_move rfl) ?_
  refine o_step rfl (s_move rfl) ?_
  refine o_step rfl (s_idx rfl rfl hsl (by omega)) ?_
  refine o_step rfl (s_ldB rfl ((RdK.old0 hw).lds i hx rfl) (by rfl)) ?_
  refine o_alloc (l := En zN) (by rw [En_zero]; rfl) rfl fun b6 => ?_
  refine o_stW rfl rfl upA lnA lnA onA ?_
  refine o_nil ?_
  refine x_then (hK2 _ _ ?_)
  refine c_seq fun _ hK3 => ?_
  refine c_region ?_
  refine o_step rfl (s_move rfl) ?_
  refine o_step rfl (s_add rfl rfl (by omega)) ?_
  refine o_step rfl (s_assign rfl) ?_
  refine o_step rfl (s_assign rfl) ?_
  refine o_nil ?_
  refine x_then (hK3 _ _ ?_)
  refine c_seq fun _ hK4 => ?_
  refine c_seq fun _ hK5 => ?_
  refine c_region ?_
  refine o_step rfl (s_field rfl rfl (by decide)) ?_
  refine o_step rfl (s_ld rfl (.own meA rfl)) ?_
  refine o_step rfl (s_move rfl) ?_
  refine o_nil ?_
  refine x_then (hK5 _ _ ?_)
  refine c_block ?_
  refine c_loop4 (fun (k : Nat) (to : Nat) (dw : Nat) (r : F) => k + r.num = ks.num ∧ Part re r to i1 ∧ dw + r.weight = ks.weight ∧ r.size ≤ ks.size) (fun (k : Nat) (to : Nat) (dw : Nat) (r : F) => [(19, .int .i64 k), (7, .int .i64 (cut dw)), (8, .int .i64 to)]) [(0, _), (4, _), (5, _), (6, _), (18, _)] (fun (k : Nat) (to : Nat) (dw : Nat) (r : F) => [(b6, .cells (En x).toArray 57 (0, 0))]) (fun (k : Nat) (to : Nat) (dw : Nat) (r : F) => ks.num - k) 0 (i + 1) 0 ks ⟨by omega, hpk, by omega, Nat.le_refl _⟩ sbA sbA hzB ?_
  rintro k to dw r ⟨hkr, hpr, hdw, hrs⟩
  have hcl := cut_le dw
  refine c_seq fun _ hK6 => ?_
  refine c_region ?_
  by_cases hkl : (k : Int) < x.kids
  ·
   obtain ⟨y, ks1, r1, rfl⟩ : ∃ y ks1 r1, r = F.nd y ks1 r1 := by cases r with | nil => simp [F.num] at hkr; omega | nd y a b => exact ⟨y, a, b, rfl⟩
   obtain ⟨hy, hpy, hpt⟩ := hpr.head
   have hpy1 : Part re (.nd y ks1 .nil) to (to + 1 + ks1.size) := hpr.one
   have hrs2 : ks1.size < ks.size := by simp only [F.size] at hrs; omega
   have hcy := cut_le (F.nd y ks1 .nil).weight
   have hpyl := hpy1.le
   refine o_step rfl (step_cast (v' := .bool true) (s_lss rfl rfl) (by rw [decide_eq_true (by omega)])) ?_
   refine o_nil ?_
   refine x_then (hK6 _ _ ?_)
   refine c_seq fun _ hK7 => ?_
   refine c_true rfl ?_
   refine c_skip ?_
   refine x_then (hK7 _ _ ?_)
   refine c_seq fun _ hK8 => ?_
   refine c_block ?_
   refine c_seq fun _ hK9 => ?_
   refine c_region ?_
   refine o_step rfl (s_move rfl) ?_
   refine o_step rfl (s_move rfl) ?_
   refine o_callP (ih y ks1 hrs2 ra rc re to (to + 1 + ks1.size) hre hpy1) rfl rfl rfl (fun w st => (RdK.old0 hw).out w st) (fun v24 hv24 => ?_)
   subst hv24
   refine o_step rfl (s_move rfl) ?_
   refine o_step rfl (s_extract rfl rfl) ?_
   refine o_step rfl (s_extract rfl rfl) ?_
   refine o_step rfl (s_assign rfl) ?_
   refine o_step rfl (s_assign rfl) ?_
   refine o_nil ?_
   refine x_then (hK9 _ _ ?_)
   refine c_region ?_
   refine o_step rfl (s_move rfl) ?_
   refine o_step rfl (s_move rfl) ?_
   refine o_step rfl (s_add rfl rfl (by omega)) ?_
   refine o_step rfl (step_cast (v' := .int .i64 (cut (dw + (F.nd y ks1 .nil).weight))) (s_min rfl rfl) (by rw [← cut_add]; unfold cut; congr 1; omega)) ?_
   refine o_step rfl (s_move rfl) ?_
   refine o_step rfl (s_assign rfl) ?_
   refine o_step rfl (s_assign rfl) ?_
   refine o_nil ?_
   refine x_block ?_
   refine x_then (hK8 _ _ ?_)
   refine c_region ?_
   refine o_step rfl (s_add rfl rfl (by omega)) ?_
   refine o_step rfl (s_move rfl) ?_
   refine o_nil ?_
   exact x_then (x_inv (k + 1, to + 1 + ks1.size, dw + (F.nd y ks1 .nil).weight, r1) ⟨by simp only [F.num] at hkr; dsimp only; omega, hpt, by simp only [F.weight] at hdw ⊢; omega, by simp only [F.size] at hrs; dsimp only; omega⟩ (by first | omega | (dsimp only; omega)) sbA hzB)
  ·
   obtain rfl : r = F.nil := by cases r with | nil => rfl | nd y a b => simp only [F.num] at hkr; omega
   have hto : to = i1 := by have := hpr.len; simp [F.size] at this; omega
   obtain rfl : dw = ks.weight := by simpa [F.weight] using hdw
   subst hto
   refine o_step rfl (step_cast (v' := .bool false) (s_lss rfl rfl) (by rw [decide_eq_false (by omega)])) ?_
   refine o_nil ?_
   refine x_then (hK6 _ _ ?_)
   refine c_seq fun _ hK10 => ?_
   refine c_false rfl ?_
   refine c_exit ?_
   refine x_then_exit ?_
   refine x_then_exit ?_
   refine x_block_exit ?_
   refine x_then (hK4 _ _ ?_)
   refine c_seq fun _ hK11 => ?_
   refine c_seq fun _ hK12 => ?_
   refine c_region ?_
   refine o_step rfl (s_field rfl rfl (by decide)) ?_
   refine o_step rfl (s_ld rfl (.own meA rfl)) ?_
   by_cases h6 : x.op = 6
   ·
    have hrf := rep_flds hok h6
    refine o_step rfl (step_cast (v' := .bool true) (s_eql rfl rfl) (by rw [decide_eq_true h6])) ?_
    refine o_nil ?_
    refine x_then (hK12 _ _ ?_)
    refine c_true rfl ?_
    refine c_seq fun _ hK13 => ?_
    refine c_region ?_
    refine o_step rfl (s_field rfl rfl (by decide)) ?_
    refine o_step rfl (s_ld rfl (.own meA rfl)) ?_
    by_cases hmx : x.mx < 0
    ·
     have ht1 : (times x : Int) = x.mn + 1 := by rw [times, if_pos h6, if_pos hmx]; omega
     have hclw := cut_le ks.weight
     have hm1 : (cut ks.weight : Int) * times x ≤ 4194560 := mul_leZ hclw htl
     have hm0 : 0 ≤ (cut ks.weight : Int) * times x := mul_0Z _ _
     have hfin := cut_fin (t := times x) (a := ks.weight) htp
     rw [ht1] at hfin hm1 hm0
     refine o_step rfl (step_cast (v' := .bool true) (s_lss rfl rfl) (by rw [decide_eq_true (by omega)])) ?_
     refine o_nil ?_
     refine x_then (hK13 _ _ ?_)
     refine c_true rfl ?_
     refine c_region ?_
     refine o_step rfl (s_move rfl) ?_
     refine o_step rfl (s_field rfl rfl (by decide)) ?_
     refine o_step rfl (s_ld rfl (.own meA rfl)) ?_
     refine o_step rfl (s_add rfl rfl (by omega)) ?_
     refine o_step rfl (s_mul rfl rfl (by omega)) ?_
     refine o_step rfl (s_assign rfl) ?_
     refine o_nil ?_
     refine x_then (hK11 _ _ ?_)
     refine c_seq fun _ hK14 => ?_
     refine c_region ?_
     refine o_step rfl (s_move rfl) ?_
     refine o_step rfl (s_add rfl rfl (by omega)) ?_
     refine o_step rfl (step_cast (v' := .int .i64 (cut (1 + times x * ks.weight) : Nat)) (s_min rfl rfl) (congrArg (Value.int .i64) hfin)) ?_
     refine o_step rfl (s_move rfl) ?_
     refine o_step rfl (s_assign rfl) ?_
     refine o_step rfl (s_assign rfl) ?_
     refine o_nil ?_
     refine x_then (hK14 _ _ ?_)
     refine c_ret ?_
     refine ?_
     exact x_ret rfl (.tmp rfl (.tmp rfl (.nil))) ((by rw [weight_one]; rfl))
    ·
     have ht1 : (times x : Int) = max x.mx 1 := by rw [times, if_pos h6, if_neg hmx]; omega
     have hclw := cut_le ks.weight
     have hm1 : (cut ks.weight : Int) * times x ≤ 4194560 := mul_leZ hclw htl
     have hm0 : 0 ≤ (cut ks.weight : Int) * times x := mul_0Z _ _
     have hfin := cut_fin (t := times x) (a := ks.weight) htp
     rw [ht1] at hfin hm1 hm0
     refine o_step rfl (step_cast (v' := .bool false) (s_lss rfl rfl) (by rw [decide_eq_false (by omega)])) ?_
     refine o_nil ?_
     refine x_then (hK13 _ _ ?_)
     refine c_false rfl ?_
     refine c_region ?_
     refine o_step rfl (s_move rfl) ?_
     refine o_step rfl (s_field rfl rfl (by decide)) ?_
     refine o_step rfl (s_ld rfl (.own meA rfl)) ?_
     refine o_step rfl (s_max rfl rfl) ?_
     refine o_step rfl (s_mul rfl rfl (by omega)) ?_
     refine o_step rfl (s_assign rfl) ?_
     refine o_nil ?_
     refine x_then (hK11 _ _ ?_)
     refine c_seq fun _ hK15 => ?_
     refine c_region ?_
     refine o_step rfl (s_move rfl) ?_
     refine o_step rfl (s_add rfl rfl (by omega)) ?_
     refine o_step rfl (step_cast (v' := .int .i64 (cut (1 + times x * ks.weight) : Nat)) (s_min rfl rfl) (congrArg (Value.int .i64) hfin)) ?_
     refine o_step rfl (s_move rfl) ?_
     refine o_step rfl (s_assign rfl) ?_
     refine o_step rfl (s_assign rfl) ?_
     refine o_nil ?_
     refine x_then (hK15 _ _ ?_)
     refine c_ret ?_
     refine ?_
     exact x_ret rfl (.tmp rfl (.tmp rfl (.nil))) ((by rw [weight_one]; rfl))
   ·
    have ht1 : (times x : Int) = 1 := by rw [times, if_neg h6]; rfl
    have hclw := cut_le ks.weight
    have hm1 : (cut ks.weight : Int) * times x ≤ 4194560 := mul_leZ hclw htl
    have hm0 : 0 ≤ (cut ks.weight : Int) * times x := mul_0Z _ _
    have hfin := cut_fin (t := times x) (a := ks.weight) htp
    rw [ht1] at hfin hm1 hm0
    rw [Int.mul_one] at hfin
    refine o_step rfl (step_cast (v' := .bool false) (s_eql rfl rfl) (by rw [decide_eq_false h6])) ?_
    refine o_nil ?_
    refine x_then (hK12 _ _ ?_)
    refine c_false rfl ?_
    refine c_skip ?_
    refine x_then (hK11 _ _ ?_)
    refine c_seq fun _ hK16 => ?_
    refine c_region ?_
    refine o_step rfl (s_move rfl) ?_
    refine o_step rfl (s_add rfl rfl (by omega)) ?_
    refine o_step rfl (step_cast (v' := .int .i64 (cut (1 + times x * ks.weight) : Nat)) (s_min rfl rfl) (congrArg (Value.int .i64) hfin)) ?_
    refine o_step rfl (s_move rfl) ?_
    refine o_step rfl (s_assign rfl) ?_
    refine o_step rfl (s_assign rfl) ?_
    refine o_nil ?_
    refine x_then (hK16 _ _ ?_)
    refine c_ret ?_
    refine ?_
    exact x_ret rfl (.tmp rfl (.tmp rfl (.nil))) ((by rw [weight_one]; rfl))
end Go.Proofs.YtmompllplidphaaDoor
