/- Part of the proofs over this seat: see the text that holds the theorem. Conditions: each theorem bears its own. -/
import Derived.Test.YtmpeokbongnniaaHTZ
import Derived.Test.YtmpeokbongnniaaYZM7Z
import Derived.Test.YtmpeokbongnniaaMT8Z
namespace Go.Proofs.Ytmpeokbongnniaa
open Go Go.HL Go.Proofs Go.HL.Kl Go.HL.Kl.Mc
set_option maxHeartbeats 4000000 in
theorem nd_step (x : Nd) (ks : F) (ih : ∀ y js, js.size < ks.size → NdC Try.prog y js) (bre bends bm bput bnode be : Nat) (ra : Option Addr) (rc : Nat) (re : List Nd) (l : List Nat) (Se : Hp) (hre : ∀ x ∈ re, -128 ≤ x.op ∧ x.op < 128) (hE : EndsOk re 0 l) (hL : OwnS Eix 1 3 (.slice (some ⟨be, 0, none⟩) re.length re.length) l Se) (hrl : re.length ≤ 1000000) (ma : Option Addr) (mc : Nat) (m : List In) (Sm : Hp) (i i1 : Nat) (hp : Part re (.nd x ks .nil) i i1) (hO : OwnS Ein 7 109 (.slice ma m.length mc) m Sm) (hlen : m.length + lenT x ks ≤ 70000) : HL.Fn Try.prog 52 [.int .i64 i, .pointer (some ⟨bre, 0, none⟩), .pointer (some ⟨bput, 0, none⟩), .pointer (some ⟨bm, 0, none⟩), .pointer (some ⟨bnode, 0, none⟩), .pointer (some ⟨bends, 0, none⟩)] (fun w => Rd En w (.slice ra re.length rc) re ∧ Apart (keys ((bm, .cells [.slice ma m.length mc].toArray 89 (0, 0)) :: (Sm ++ ((bre, .cells [.slice ra re.length rc].toArray 22 (0, 0)) :: (bends, .cells [.slice (some ⟨be, 0, none⟩) re.length re.length].toArray 65 (0, 0)) :: (bput, .cells [.func (.func 51) [].toArray [.pointer (some ⟨bm, 0, none⟩)].toArray].toArray 110 (0, 0)) :: (bnode, .cells [.func (.func 52) [].toArray [.pointer (some ⟨bre, 0, none⟩), .pointer (some ⟨bput, 0, none⟩), .pointer (some ⟨bm, 0, none⟩), .pointer (some ⟨bnode, 0, none⟩), .pointer (some ⟨bends, 0, none⟩)].toArray].toArray 111 (0, 0)) :: Se)))) (.slice ra re.length rc)) ((bm, .cells [.slice ma m.length mc].toArray 89 (0, 0)) :: (Sm ++ ((bre, .cells [.slice ra re.length rc].toArray 22 (0, 0)) :: (bends, .cells [.slice (some ⟨be, 0, none⟩) re.length re.length].toArray 65 (0, 0)) :: (bput, .cells [.func (.func 51) [].toArray [.pointer (some ⟨bm, 0, none⟩)].toArray].toArray 110 (0, 0)) :: (bnode, .cells [.func (.func 52) [].toArray [.pointer (some ⟨bre, 0, none⟩), .pointer (some ⟨bput, 0, none⟩), .pointer (some ⟨bm, 0, none⟩), .pointer (some ⟨bnode, 0, none⟩), .pointer (some ⟨bends, 0, none⟩)].toArray].toArray 111 (0, 0)) :: Se))) (fun _ S' => ∃ ma' mc' Sm', S' = ((bm, .cells [.slice ma' (m ++ codeOne x ks m.length).length mc'].toArray 89 (0, 0)) :: (Sm' ++ ((bre, .cells [.slice ra re.length rc].toArray 22 (0, 0)) :: (bends, .cells [.slice (some ⟨be, 0, none⟩) re.length re.length].toArray 65 (0, 0)) :: (bput, .cells [.func (.func 51) [].toArray [.pointer (some ⟨bm, 0, none⟩)].toArray].toArray 110 (0, 0)) :: (bnode, .cells [.func (.func 52) [].toArray [.pointer (some ⟨bre, 0, none⟩), .pointer (some ⟨bput, 0, none⟩), .pointer (some ⟨bm, 0, none⟩), .pointer (some ⟨bnode, 0, none⟩), .pointer (some ⟨bends, 0, none⟩)].toArray].toArray 111 (0, 0)) :: Se))) ∧ OwnS Ein 7 109 (.slice ma' (m ++ codeOne x ks m.length).length mc') (m ++ codeOne x ks m.length) Sm') := by
  refine fn_of Try.func52 rfl rfl rfl fun w0 hw => ?_
  have hsl := hw.1.sl
  have hbl := hsl.le
  obtain ⟨hx, hpk, _⟩ := hp.head
  have hilt := (List.getElem?_eq_some_iff.1 hx).1
  have hok : ndOk x = true := hp.wf.1
  have hei := hE.2 i x ks .nil _ (Nat.zero_le _) hp
  have hLs := hL.sl
  rw [hE.1] at hLs
  have hpkl := hpk.le
  refine c_seq fun _ hK1 => ?_
  refine c_region ?_
  refine o_box rfl rfl rfl fun b6 => ?_
  refine o_nil ?_
  refine x_then (hK1 _ _ ?_)
  refine c_seq fun _ hK2 => ?_
  refine c_region ?_
  refine o_step rfl (s_ld rfl (.own meA rfl)) ?_
  refine o_step rfl (s_ld rfl (.own meA rfl)) ?_
  refine o_step rfl (s_idx rfl rfl hsl (by omega)) ?_
  refine o_step rfl (s_ldB rfl ((RdK.old hw.1 hw.2).lds i hx rfl) (by rfl)) ?_
  refine o_alloc (l := En zN) (by rw [En_zero]; rfl) rfl fun b7 => ?_
  refine o_stW rfl rfl upA lnA lnA onA ?_
  refine o_nil ?_
  refine x_then (hK2 _ _ ?_)
  refine c_seq fun _ hK3 => ?_
  refine c_region ?_
  refine o_step rfl (s_field rfl rfl (by decide)) ?_
  refine o_step rfl (s_ld rfl (.own meA rfl)) ?_
  refine o_nil ?_
  refine x_then (hK3 _ _ ?_)
  refine c_block ?_
  refine c_seq fun _ hK4 => ?_
  refine c_region ?_
  by_cases h1 : x.op = 1
  ·
   have hlt := lenT_s (ks := ks) (.inl h1)
   refine o_step rfl (step_cast (v' := .bool true) (s_eql rfl rfl) (by rw [decide_eq_true h1])) ?_
   refine o_step rfl (s_assign rfl) ?_
   refine o_nil ?_
   refine x_then (hK4 _ _ ?_)
   refine c_true rfl ?_
   refine c_region ?_
   refine o_step rfl (s_ld rfl (.own meA rfl)) ?_
   refine o_step rfl (s_field rfl rfl (by decide)) ?_
   refine o_step rfl (s_ldB rfl (RdPK.cels (RdPK.own' (cs := Ec x.set) meA nd_set)) (Ec_lenM _)) ?_
   refine o_step rfl (step_cast (v' := .agg (Ein (⟨1, x.set, 0, 0⟩ : In)).toArray) (s_build (cs := [_, _, _, _, _, _, _]) (vs := [_, _]) rfl rfl (.cons rfl rfl rfl rfl rfl (.cons rfl rfl rfl rfl rfl (.nil)))) (rfl)) ?_
   refine o_callC (us := []) (vs := [_]) (cs := [.pointer (some ⟨bm, 0, none⟩)]) (put_fn ⟨1, x.set, 0, 0⟩ bm ma mc m Sm hO (by omega)) rfl rfl rfl ((Pick.takeC pkA pkA)) (fun _ _ => trivial) (fun v41 S41 ⟨hw41, a41, c41, Sn41, hv41, hn41⟩ => ?_)
   subst hw41
   subst hv41
   refine o_nil ?_
   refine x_block ?_
   have hfin : (m ++ [⟨1, x.set, 0, 0⟩]) = m ++ codeOne x ks m.length := by rw [codeOne_1 h1]
   rw [hfin] at hn41
   refine x_sub (Sub.refl _) (H' := ((bm, .cells [.slice a41 (m ++ codeOne x ks m.length).length c41].toArray 89 (0, 0)) :: (Sn41 ++ ((bre, .cells [.slice ra re.length rc].toArray 22 (0, 0)) :: (bends, .cells [.slice (some ⟨be, 0, none⟩) re.length re.length].toArray 65 (0, 0)) :: (bput, .cells [.func (.func 51) [].toArray [.pointer (some ⟨bm, 0, none⟩)].toArray].toArray 110 (0, 0)) :: (bnode, .cells [.func (.func 52) [].toArray [.pointer (some ⟨bre, 0, none⟩), .pointer (some ⟨bput, 0, none⟩), .pointer (some ⟨bm, 0, none⟩), .pointer (some ⟨bnode, 0, none⟩), .pointer (some ⟨bends, 0, none⟩)].toArray].toArray 111 (0, 0)) :: Se)))) (by rw [← hfin]; exact hzB) ?_
   exact x_end rfl (.nil) (⟨_, _, _, rfl, hn41⟩)
  ·
   refine o_step rfl (step_cast (v' := .bool false) (s_eql rfl rfl) (by rw [decide_eq_false h1])) ?_
   refine o_step rfl (s_assign rfl) ?_
   refine o_nil ?_
   refine x_then (hK4 _ _ ?_)
   refine c_false rfl ?_
   refine c_seq fun _ hK5 => ?_
   refine c_region ?_
   by_cases h2 : x.op = 2
   ·
    have hlt := lenT_s (ks := ks) (.inr (.inl h2))
    refine o_step rfl (step_cast (v' := .bool true) (s_eql rfl rfl) (by rw [decide_eq_true h2])) ?_
    refine o_step rfl (s_assign rfl) ?_
    refine o_nil ?_
    refine x_then (hK5 _ _ ?_)
    refine c_true rfl ?_
    refine c_region ?_
    refine o_step rfl (s_ld rfl (.own meA rfl)) ?_
    refine o_step rfl (step_cast (v' := .agg (Ein (⟨2, 0, 0, 0⟩ : In)).toArray) (s_build (cs := [_, _, _, _, _, _, _]) (vs := [_]) rfl rfl (.cons rfl rfl rfl rfl rfl (.nil))) (by rw [Ein_zero]; try rfl)) ?_
    refine o_callC (us := []) (vs := [_]) (cs := [.pointer (some ⟨bm, 0, none⟩)]) (put_fn ⟨2, 0, 0, 0⟩ bm ma mc m Sm hO (by omega)) rfl rfl rfl ((Pick.takeC pkA pkA)) (fun _ _ => trivial) (fun v46 S46 ⟨hw46, a46, c46, Sn46, hv46, hn46⟩ => ?_)
    subst hw46
    subst hv46
    refine o_nil ?_
    refine x_block ?_
    have hfin : (m ++ [⟨2, 0, 0, 0⟩]) = m ++ codeOne x ks m.length := by rw [codeOne_2 h2]
    rw [hfin] at hn46
    refine x_sub (Sub.refl _) (H' := ((bm, .cells [.slice a46 (m ++ codeOne x ks m.length).length c46].toArray 89 (0, 0)) :: (Sn46 ++ ((bre, .cells [.slice ra re.length rc].toArray 22 (0, 0)) :: (bends, .cells [.slice (some ⟨be, 0, none⟩) re.length re.length].toArray 65 (0, 0)) :: (bput, .cells [.func (.func 51) [].toArray [.pointer (some ⟨bm, 0, none⟩)].toArray].toArray 110 (0, 0)) :: (bnode, .cells [.func (.func 52) [].toArray [.pointer (some ⟨bre, 0, none⟩), .pointer (some ⟨bput, 0, none⟩), .pointer (some ⟨bm, 0, none⟩), .pointer (some ⟨bnode, 0, none⟩), .pointer (some ⟨bends, 0, none⟩)].toArray].toArray 111 (0, 0)) :: Se)))) (by rw [← hfin]; exact hzB) ?_
    exact x_end rfl (.nil) (⟨_, _, _, rfl, hn46⟩)
   ·
    refine o_step rfl (step_cast (v' := .bool false) (s_eql rfl rfl) (by rw [decide_eq_false h2])) ?_
    refine o_step rfl (s_assign rfl) ?_
    refine o_nil ?_
    refine x_then (hK5 _ _ ?_)
    refine c_false rfl ?_
    refine c_seq fun _ hK6 => ?_
    refine c_region ?_
    by_cases h3 : x.op = 3
    ·
     have hlt := lenT_s (ks := ks) (.inr (.inr h3))
     refine o_step rfl (step_cast (v' := .bool true) (s_eql rfl rfl) (by rw [decide_eq_true h3])) ?_
     refine o_step rfl (s_assign rfl) ?_
     refine o_nil ?_
     refine x_then (hK6 _ _ ?_)
     refine c_true rfl ?_
     refine c_region ?_
     refine o_step rfl (s_ld rfl (.own meA rfl)) ?_
     refine o_step rfl (step_cast (v' := .agg (Ein (⟨3, 0, 0, 0⟩ : In)).toArray) (s_build (cs := [_, _, _, _, _, _, _]) (vs := [_]) rfl rfl (.cons rfl rfl rfl rfl rfl (.nil))) (by rw [Ein_zero]; try rfl)) ?_
     refine o_callC (us := []) (vs := [_]) (cs := [.pointer (some ⟨bm, 0, none⟩)]) (put_fn ⟨3, 0, 0, 0⟩ bm ma mc m Sm hO (by omega)) rfl rfl rfl ((Pick.takeC pkA pkA)) (fun _ _ => trivial) (fun v51 S51 ⟨hw51, a51, c51, Sn51, hv51, hn51⟩ => ?_)
     subst hw51
     subst hv51
     refine o_nil ?_
     refine x_block ?_
     have hfin : (m ++ [⟨3, 0, 0, 0⟩]) = m ++ codeOne x ks m.length := by rw [codeOne_3 h3]
     rw [hfin] at hn51
     refine x_sub (Sub.refl _) (H' := ((bm, .cells [.slice a51 (m ++ codeOne x ks m.length).length c51].toArray 89 (0, 0)) :: (Sn51 ++ ((bre, .cells [.slice ra re.length rc].toArray 22 (0, 0)) :: (bends, .cells [.slice (some ⟨be, 0, none⟩) re.length re.length].toArray 65 (0, 0)) :: (bput, .cells [.func (.func 51) [].toArray [.pointer (some ⟨bm, 0, none⟩)].toArray].toArray 110 (0, 0)) :: (bnode, .cells [.func (.func 52) [].toArray [.pointer (some ⟨bre, 0, none⟩), .pointer (some ⟨bput, 0, none⟩), .pointer (some ⟨bm, 0, none⟩), .pointer (some ⟨bnode, 0, none⟩), .pointer (some ⟨bends, 0, none⟩)].toArray].toArray 111 (0, 0)) :: Se)))) (by rw [← hfin]; exact hzB) ?_
     exact x_end rfl (.nil) (⟨_, _, _, rfl, hn51⟩)
    ·
     refine o_step rfl (step_cast (v' := .bool false) (s_eql rfl rfl) (by rw [decide_eq_false h3])) ?_
     refine o_step rfl (s_assign rfl) ?_
     refine o_nil ?_
     refine x_then (hK6 _ _ ?_)
     refine c_false rfl ?_
     refine c_seq fun _ hK7 => ?_
     refine c_region ?_
     by_cases h6 : x.op = 6
     ·
      refine o_step rfl (step_cast (v' := .bool true) (s_eql rfl rfl) (by rw [decide_eq_true h6])) ?_
      refine o_step rfl (s_assign rfl) ?_
      refine o_nil ?_
      refine x_then (hK7 _ _ ?_)
      refine c_true rfl ?_
      refine c_region ?_
      refine o_step rfl (s_ldB rfl (RdPK.cels (.own meA)) (by rfl)) ?_
      refine o_step rfl (s_func (us := []) (vs := [_, _]) rfl rfl) ?_
      obtain ⟨y1, js1, hks⟩ := rep_kid hp.wf h6
      have hone : OneC Try.prog bm b6 bnode i ra rc re ((bre, .cells [.slice ra re.length rc].toArray 22 (0, 0)) :: (bends, .cells [.slice (some ⟨be, 0, none⟩) re.length re.length].toArray 65 (0, 0)) :: (bput, .cells [.func (.func 51) [].toArray [.pointer (some ⟨bm, 0, none⟩)].toArray].toArray 110 (0, 0)) :: (bnode, .cells [.func (.func 52) [].toArray [.pointer (some ⟨bre, 0, none⟩), .pointer (some ⟨bput, 0, none⟩), .pointer (some ⟨bm, 0, none⟩), .pointer (some ⟨bnode, 0, none⟩), .pointer (some ⟨bends, 0, none⟩)].toArray].toArray 111 (0, 0)) :: Se) (fun b => code ks false b 0) (lenM ks false) := by rw [hks] at hpk ⊢; exact one_c y1 js1 (ih y1 js1 (by rw [hks]; simp [F.size])) bre bends bm bput bnode be ra rc re l Se hre hE hL hrl b6 i _ hpk
      refine o_call (rounds_fn x hok h6 _ _ (fun b => code_len ks false b 0) bm b6 bnode i ra rc re ((bre, .cells [.slice ra re.length rc].toArray 22 (0, 0)) :: (bends, .cells [.slice (some ⟨be, 0, none⟩) re.length re.length].toArray 65 (0, 0)) :: (bput, .cells [.func (.func 51) [].toArray [.pointer (some ⟨bm, 0, none⟩)].toArray].toArray 110 (0, 0)) :: (bnode, .cells [.func (.func 52) [].toArray [.pointer (some ⟨bre, 0, none⟩), .pointer (some ⟨bput, 0, none⟩), .pointer (some ⟨bm, 0, none⟩), .pointer (some ⟨bnode, 0, none⟩), .pointer (some ⟨bends, 0, none⟩)].toArray].toArray 111 (0, 0)) :: Se) hone ma mc m Sm hO (by rw [lenT_6 h6] at hlen; exact hlen)) rfl rfl rfl ((Pick.takeC pkA (Pick.takeC pkA (Pick.takeA pkA (Pick.takeC pkA (Pick.takeC pkA (Pick.takeC pkA (Pick.takeC pkA pkA)))))))) (fun w st => ⟨(RdK.old hw.1 hw.2).out w st, St.apart_M st (by exact hiB) hw.1 hw.2 (by decide)⟩) (fun v56 S56 ⟨a56, c56, Sn56, hv56, hn56⟩ => ?_)
      subst hv56
      refine o_nil ?_
      refine x_block ?_
      have hfin : (m ++ repC x (fun b => code ks false b 0) (lenM ks false) m.length) = m ++ codeOne x ks m.length := by rw [codeOne_6 h6]
      rw [hfin] at hn56
      refine x_sub (Sub.refl _) (H' := ((bm, .cells [.slice a56 (m ++ codeOne x ks m.length).length c56].toArray 89 (0, 0)) :: (Sn56 ++ ((bre, .cells [.slice ra re.length rc].toArray 22 (0, 0)) :: (bends, .cells [.slice (some ⟨be, 0, none⟩) re.length re.length].toArray 65 (0, 0)) :: (bput, .cells [.func (.func 51) [].toArray [.pointer (some ⟨bm, 0, none⟩)].toArray].toArray 110 (0, 0)) :: (bnode, .cells [.func (.func 52) [].toArray [.pointer (some ⟨bre, 0, none⟩), .pointer (some ⟨bput, 0, none⟩), .pointer (some ⟨bm, 0, none⟩), .pointer (some ⟨bnode, 0, none⟩), .pointer (some ⟨bends, 0, none⟩)].toArray].toArray 111 (0, 0)) :: Se)))) (by rw [← hfin]; exact hzB) ?_
      exact x_end rfl (.nil) (⟨_, _, _, rfl, hn56⟩)
     ·
      refine o_step rfl (step_cast (v' := .bool false) (s_eql rfl rfl) (by rw [decide_eq_false h6])) ?_
      refine o_step rfl (s_assign rfl) ?_
      refine o_nil ?_
      refine x_then (hK7 _ _ ?_)
      refine c_false rfl ?_
      refine c_seq fun _ hK8 => ?_
      refine c_region ?_
      by_cases h5 : x.op = 5
      ·
       have hlt := lenT_5 (ks := ks) h5
       refine o_step rfl (step_cast (v' := .bool true) (s_eql rfl rfl) (by rw [decide_eq_true h5])) ?_
       refine o_step rfl (s_assign rfl) ?_
       refine o_nil ?_
       refine x_then (hK8 _ _ ?_)
       refine c_true rfl ?_
       refine c_seq fun _ hK9 => ?_
       refine c_region ?_
       refine o_step rfl (s_assign rfl) ?_
       refine o_nil ?_
       refine x_then (hK9 _ _ ?_)
       refine c_seq fun _ hK10 => ?_
       refine c_seq fun _ hK11 => ?_
       refine c_region ?_
       refine o_step rfl (s_ld rfl (.own meA rfl)) ?_
       refine o_step rfl (s_add rfl rfl (by omega)) ?_
       refine o_step rfl (s_assign rfl) ?_
       refine o_nil ?_
       refine x_then (hK11 _ _ ?_)
       refine c_block ?_
       refine c_loop8 (fun (kp : Nat) (r : F) (m2 : List In) (ma2 : Option Addr) (mc2 : Nat) (Sm2 : Hp) (jl : Sl Nat) (Sj : Hp) => Part re r kp (i + 1 + ks.size) ∧ r ≠ .nil ∧ r.size ≤ ks.size ∧ m2 ++ code r true m2.length 0 = m ++ code ks true m.length 0 ∧ jl.xs ++ jmps r m2.length = jmps ks m.length ∧ m2.length + lenM r true = m.length + lenM ks true ∧ jl.xs.length + r.size ≤ ks.size ∧ OwnS Ein 7 109 (.slice ma2 m2.length mc2) m2 Sm2 ∧ OwnS Eix 1 3 (.slice jl.a jl.xs.length jl.c) jl.xs Sj) (fun (kp : Nat) (r : F) (m2 : List In) (ma2 : Option Addr) (mc2 : Nat) (Sm2 : Hp) (jl : Sl Nat) (Sj : Hp) => [(9, .int .i64 kp), (8, .slice jl.a jl.xs.length jl.c)]) [(2, _), (3, _), (4, _), (5, _), (6, _)] (fun (kp : Nat) (r : F) (m2 : List In) (ma2 : Option Addr) (mc2 : Nat) (Sm2 : Hp) (jl : Sl Nat) (Sj : Hp) => (bm, .cells [.slice ma2 m2.length mc2].toArray 89 (0, 0)) :: (Sm2 ++ (Sj ++ ((bre, .cells [.slice ra re.length rc].toArray 22 (0, 0)) :: (bends, .cells [.slice (some ⟨be, 0, none⟩) re.length re.length].toArray 65 (0, 0)) :: (bput, .cells [.func (.func 51) [].toArray [.pointer (some ⟨bm, 0, none⟩)].toArray].toArray 110 (0, 0)) :: (bnode, .cells [.func (.func 52) [].toArray [.pointer (some ⟨bre, 0, none⟩), .pointer (some ⟨bput, 0, none⟩), .pointer (some ⟨bm, 0, none⟩), .pointer (some ⟨bnode, 0, none⟩), .pointer (some ⟨bends, 0, none⟩)].toArray].toArray 111 (0, 0)) :: (Se ++ [(b7, .cells (En x).toArray 85 (0, 0)), (b6, .cells [.int .i64 i].toArray 3 (0, 0))]))))) (fun (kp : Nat) (r : F) (m2 : List In) (ma2 : Option Addr) (mc2 : Nat) (Sm2 : Hp) (jl : Sl Nat) (Sj : Hp) => r.size) (i + 1) ks m ma mc Sm ⟨none, 0, []⟩ [] ⟨hpk, alt_ne hp.wf h5, Nat.le_refl _, rfl, by simp, rfl, by simp, hO, .nil⟩ sbA sbA hzB ?_
       rintro kp r m2 ma2 mc2 Sm2 jl Sj ⟨hpr, hrn, hrs, hmc, hjl, hml, hjn, hO2, hJ⟩
       have hprl := hpr.len
       have hprle := hpr.le
       obtain ⟨y, ks1, r2, rfl⟩ : ∃ y ks1 r2, r = F.nd y ks1 r2 := by cases r with | nil => exact absurd rfl hrn | nd y a b => exact ⟨y, a, b, rfl⟩
       obtain ⟨hy, hpy, hpt⟩ := hpr.head
       have hpy1 : Part re (.nd y ks1 .nil) kp (kp + 1 + ks1.size) := hpr.one
       have hsz2 : ks1.size < ks.size := by simp only [F.size] at hrs; omega
       have hlt2 := (List.getElem?_eq_some_iff.1 hy).1
       have hge := hE.2 kp y ks1 r2 _ (Nat.zero_le _) hpr
       simp only [F.size] at hprl hjn
       refine c_seq fun _ hK12 => ?_
       refine c_seq fun _ hK13 => ?_
       refine c_region ?_
       refine o_step rfl (s_move rfl) ?_
       refine o_step rfl (s_ld rfl (.own meA rfl)) ?_
       refine o_step rfl (s_ld rfl (.own meA rfl)) ?_
       refine o_step rfl (s_idx rfl rfl hLs (by omega)) ?_
       refine o_step rfl (s_ld rfl ((hL.rdk hiA).ld i 0 hei rfl (by decide) (by omega))) ?_
       refine o_step rfl (s_lss_t rfl rfl (by omega)) ?_
       refine o_nil ?_
       refine x_then (hK13 _ _ ?_)
       refine c_true rfl ?_
       refine c_skip ?_
       refine x_then (hK12 _ _ ?_)
       refine c_seq fun _ hK14 => ?_
       refine c_block ?_
       refine c_seq fun _ hK15 => ?_
       refine c_seq fun _ hK16 => ?_
       refine c_drawE ((bm, .cells [.slice ma2 m2.length mc2].toArray 89 (0, 0)) :: (Sm2 ++ (Sj ++ ((bre, .cells [.slice ra re.length rc].toArray 22 (0, 0)) :: (bends, .cells [.slice (some ⟨be, 0, none⟩) re.length re.length].toArray 65 (0, 0)) :: (bput, .cells [.func (.func 51) [].toArray [.pointer (some ⟨bm, 0, none⟩)].toArray].toArray 110 (0, 0)) :: (bnode, .cells [.func (.func 52) [].toArray [.pointer (some ⟨bre, 0, none⟩), .pointer (some ⟨bput, 0, none⟩), .pointer (some ⟨bm, 0, none⟩), .pointer (some ⟨bnode, 0, none⟩), .pointer (some ⟨bends, 0, none⟩)].toArray].toArray 111 (0, 0)) :: (Se ++ [(b7, .cells (En x).toArray 85 (0, 0)), (b6, .cells [.int .i64 i].toArray 3 (0, 0))]))))) (fun i => false) ?_
       refine e_tk 0 rfl hzB (s_ld rfl (.own meA rfl)) ?_
       refine e_tk 1 rfl hzB (s_move rfl) ?_
       refine e_tk 2 rfl hzB (s_idx rfl rfl hLs (by omega)) ?_
       refine e_tk 3 rfl hzB (s_ld rfl ((hL.rdk hiA).ld kp 0 hge rfl (by decide) (by omega))) ?_
       refine e_tk 4 rfl hzB (s_ld rfl (.own meA rfl)) ?_
       refine e_tk 5 rfl hzB (s_ld rfl (.own meA rfl)) ?_
       refine e_tk 6 rfl hzB (s_idx rfl rfl hLs (by omega)) ?_
       refine e_tk 7 rfl hzB (s_ld rfl ((hL.rdk hiA).ld i 0 hei rfl (by decide) (by omega))) ?_
       by_cases hla : kp + 1 + ks1.size = i + 1 + ks.size
       ·
        obtain rfl : r2 = F.nil := F.size_nil (by omega)
        have hmc2 : (m2 ++ codeOne y ks1 m2.length) = m ++ code ks true m.length 0 := by rw [← hmc, code_last]
        rw [lenM_last] at hml
        refine e_tk 8 rfl hzB (step_cast (v' := .bool true) (s_eql rfl rfl) (by rw [decide_eq_true (by omega)])) ?_
        refine e_done (by kernel_rfl) ?_
        refine x_then (hK16 _ _ ?_)
        refine c_true rfl ?_
        refine c_seq fun _ hK17 => ?_
        refine c_region ?_
        refine o_step rfl (s_ld rfl (.own meA rfl)) ?_
        refine o_step rfl (s_move rfl) ?_
        refine o_callC (us := []) (vs := [_]) (cs := [.pointer (some ⟨bre, 0, none⟩), .pointer (some ⟨bput, 0, none⟩), .pointer (some ⟨bm, 0, none⟩), .pointer (some ⟨bnode, 0, none⟩), .pointer (some ⟨bends, 0, none⟩)]) ((ih y ks1 hsz2) bre bends bm bput bnode be ra rc re l Se ma2 mc2 m2 Sm2 kp (kp + 1 + ks1.size) hre hE hL hrl hpy1 hO2 (by omega)) rfl rfl rfl ((Pick.takeC pkA (Pick.takeA pkA (Pick.takeC pkA (Pick.takeC pkA (Pick.takeC pkA (Pick.takeC pkA pkA))))))) (fun w st => ⟨(RdK.old hw.1 hw.2).out w st, St.apart_M st (by exact hiB) hw.1 hw.2 (by decide)⟩) (fun v82 S82 ⟨a82, c82, Sn82, hv82, hn82⟩ => ?_)
        subst hv82
        refine o_nil ?_
        refine x_then (hK17 _ _ ?_)
        refine c_exit ?_
        refine x_then_exit ?_
        refine x_block_pass rfl ?_
        refine x_then_exit ?_
        refine x_then_exit ?_
        refine x_block_exit ?_
        refine x_then (hK10 _ _ ?_)
        refine c_seq fun _ hK18 => ?_
        refine c_region ?_
        refine o_step rfl (s_move rfl) ?_
        refine o_step rfl (s_len rfl) ?_
        refine o_step rfl (s_move rfl) ?_
        refine o_nil ?_
        refine x_then (hK18 _ _ ?_)
        refine c_block ?_
        refine c_loop3 (fun (q : Nat) (m3 : List In) (Sm3 : Hp) => q ≤ jl.xs.length ∧ m3 = patch (m ++ code ks true m.length 0) (jl.xs.take q) (m2 ++ codeOne y ks1 m2.length).length ∧ OwnS Ein 7 109 (.slice a82 (m2 ++ codeOne y ks1 m2.length).length c82) m3 Sm3) (fun (q : Nat) (m3 : List In) (Sm3 : Hp) => [(106, .int .i64 q)]) [(3, _), (104, _), (105, _)] (fun (q : Nat) (m3 : List In) (Sm3 : Hp) => (bm, .cells [.slice a82 (m2 ++ codeOne y ks1 m2.length).length c82].toArray 89 (0, 0)) :: (Sm3 ++ (Sj ++ ((bre, .cells [.slice ra re.length rc].toArray 22 (0, 0)) :: (bends, .cells [.slice (some ⟨be, 0, none⟩) re.length re.length].toArray 65 (0, 0)) :: (bput, .cells [.func (.func 51) [].toArray [.pointer (some ⟨bm, 0, none⟩)].toArray].toArray 110 (0, 0)) :: (bnode, .cells [.func (.func 52) [].toArray [.pointer (some ⟨bre, 0, none⟩), .pointer (some ⟨bput, 0, none⟩), .pointer (some ⟨bm, 0, none⟩), .pointer (some ⟨bnode, 0, none⟩), .pointer (some ⟨bends, 0, none⟩)].toArray].toArray 111 (0, 0)) :: (Se ++ [(b7, .cells (En x).toArray 85 (0, 0)), (b6, .cells [.int .i64 i].toArray 3 (0, 0))]))))) (fun (q : Nat) (m3 : List In) (Sm3 : Hp) => jl.xs.length - q) 0 (m2 ++ codeOne y ks1 m2.length) Sn82 ⟨by omega, hmc2, hn82⟩ sbA sbA hzB ?_
        rintro q m3 Sm3 ⟨hq, hm3, hO3⟩
        have hl3 : m3.length = (m2 ++ codeOne y ks1 m2.length).length := by rw [hm3, patch_len, hmc2]
        have hO3s := hO3.sl
        rw [hl3] at hO3s
        have hJs := hJ.sl
        refine c_seq fun _ hK19 => ?_
        refine c_region ?_
        by_cases hqk : q < jl.xs.length
        ·
         have hjq : jl.xs[q]? = some jl.xs[q] := List.getElem?_eq_getElem hqk
         have hjm : jl.xs = jmps ks m.length := by simpa [jmps] using hjl
         obtain ⟨v0, hv0⟩ : IsJ m3 jl.xs[q] := by rw [hm3]; exact patch_isJ _ _ _ (jmps_isJ ks m _ (by rw [← hjm]; exact List.getElem_mem hqk))
         have hjlt := (List.getElem?_eq_some_iff.1 hv0).1
         refine o_step rfl (step_cast (v' := .bool true) (s_lss rfl rfl) (by rw [decide_eq_true (by omega)])) ?_
         refine o_nil ?_
         refine x_then (hK19 _ _ ?_)
         refine c_seq fun _ hK20 => ?_
         refine c_true rfl ?_
         refine c_skip ?_
         refine x_then (hK20 _ _ ?_)
         refine c_seq fun _ hK21 => ?_
         refine c_block ?_
         refine c_seq fun _ hK22 => ?_
         refine c_region ?_
         refine o_step rfl (s_idx rfl rfl hJs (by omega)) ?_
         refine o_step rfl (s_ld rfl ((hJ.rdk hiA).ld q 0 hjq rfl (by decide) (by omega))) ?_
         refine o_step rfl (s_assign rfl) ?_
         refine o_nil ?_
         refine x_then (hK22 _ _ ?_)
         refine c_region ?_
         refine o_step rfl (s_ld rfl (.own meA rfl)) ?_
         refine o_step rfl (s_move rfl) ?_
         refine o_step rfl (s_ld rfl (.own meA rfl)) ?_
         refine o_step rfl (s_len rfl) ?_
         refine o_step rfl (s_idx rfl rfl hO3s (by omega)) ?_
         refine o_step rfl (s_field rfl rfl (by decide)) ?_
         refine o_stS (i := jl.xs[q]) (off := 5) (cs := [.int .i64 ((m2 ++ codeOne y ks1 m2.length).length : Nat)]) ⟨4, 0, ((m2 ++ codeOne y ks1 m2.length).length : Nat), 0⟩ hO3 pkA rfl rfl rfl rfl hjlt (by first | rfl | (rw [Int.toNat_natCast]; first | done | rfl)) (by simp) (fun e he => by rw [hv0] at he; cases he; rfl) (by simp [Value.oneCell']) fun S' hS' => ?_
         refine o_nil ?_
         refine x_block ?_
         refine x_then (hK21 _ _ ?_)
         refine c_region ?_
         refine o_step rfl (s_add rfl rfl (by omega)) ?_
         refine o_step rfl (s_move rfl) ?_
         refine o_nil ?_
         exact x_then (x_inv (q + 1, _, _) ⟨by omega, by rw [hm3]; exact patch_take hjq, hS'⟩ (by first | omega | (dsimp only; omega)) sbA hzB)
        ·
         have hqe : jl.xs.take q = jl.xs := List.take_of_length_le (by omega)
         have hjm : jl.xs = jmps ks m.length := by simpa [jmps] using hjl
         refine o_step rfl (step_cast (v' := .bool false) (s_lss rfl rfl) (by rw [decide_eq_false (by omega)])) ?_
         refine o_nil ?_
         refine x_then (hK19 _ _ ?_)
         refine c_seq fun _ hK23 => ?_
         refine c_false rfl ?_
         refine c_exit ?_
         refine x_then_exit ?_
         refine x_then_exit ?_
         refine x_block_exit ?_
         refine x_block ?_
         have hel : (m2 ++ codeOne y ks1 m2.length).length = m.length + lenM ks true := by rw [hmc2, List.length_append, code_len]
         have hfin : m3 = m ++ codeOne x ks m.length := by rw [hm3, hqe, hjm, patch_alt, codeOne_5 h5, hel]
         have hfl : (m2 ++ codeOne y ks1 m2.length).length = (m ++ codeOne x ks m.length).length := by rw [← hfin, hl3]
         rw [hfin, hfl] at hO3
         refine x_sub (Sub.refl _) (H' := ((bm, .cells [.slice a82 (m ++ codeOne x ks m.length).length c82].toArray 89 (0, 0)) :: (Sm3 ++ ((bre, .cells [.slice ra re.length rc].toArray 22 (0, 0)) :: (bends, .cells [.slice (some ⟨be, 0, none⟩) re.length re.length].toArray 65 (0, 0)) :: (bput, .cells [.func (.func 51) [].toArray [.pointer (some ⟨bm, 0, none⟩)].toArray].toArray 110 (0, 0)) :: (bnode, .cells [.func (.func 52) [].toArray [.pointer (some ⟨bre, 0, none⟩), .pointer (some ⟨bput, 0, none⟩), .pointer (some ⟨bm, 0, none⟩), .pointer (some ⟨bnode, 0, none⟩), .pointer (some ⟨bends, 0, none⟩)].toArray].toArray 111 (0, 0)) :: Se)))) (by rw [← hfl]; exact hzB) ?_
         exact x_end rfl (.nil) (⟨_, _, _, rfl, hO3⟩)
       ·
        obtain ⟨z, js, s, rfl⟩ : ∃ z js s, r2 = F.nd z js s := by cases r2 with | nil => exact absurd (by simp [F.size] at hprl; omega) hla | nd z a b => exact ⟨z, a, b, rfl⟩
        rw [lenM_more] at hml
        refine e_tk 8 rfl hzB (step_cast (v' := .bool false) (s_eql rfl rfl) (by rw [decide_eq_false (by omega)])) ?_
        refine e_done (by kernel_rfl) ?_
        refine x_then (hK16 _ _ ?_)
        refine c_false rfl ?_
        refine c_skip ?_
        refine x_then (hK15 _ _ ?_)
        refine c_seq fun _ hK24 => ?_
        refine c_region ?_
        refine o_step rfl (s_ld rfl (.own meA rfl)) ?_
        refine o_step rfl (s_ld rfl (.own meA rfl)) ?_
        refine o_step rfl (s_len rfl) ?_
        refine o_step rfl (s_add rfl rfl (by omega)) ?_
        refine o_step rfl (step_cast (v' := .agg (Ein (⟨5, 0, (m2.length + 1 : Nat), 0⟩ : In)).toArray) (s_build (cs := [_, _, _, _, _, _, _]) (vs := [_, _]) rfl rfl (.cons rfl rfl rfl rfl rfl (.cons rfl rfl rfl rfl rfl (.nil)))) (by rw [Ein_zero]; try rfl)) ?_
        refine o_callC (us := []) (vs := [_]) (cs := [.pointer (some ⟨bm, 0, none⟩)]) (put_fn (⟨5, 0, (m2.length + 1 : Nat), 0⟩ : In) bm ma2 mc2 m2 Sm2 hO2 (by omega)) rfl rfl rfl ((Pick.takeC pkA pkA)) (fun _ _ => trivial) (fun v88 S88 ⟨hw88, a88, c88, Sn88, hv88, hn88⟩ => ?_)
        subst hw88
        subst hv88
        have hl3 : (m2 ++ [(⟨5, 0, (m2.length + 1 : Nat), 0⟩ : In)]).length = m2.length + 1 := by simp
        refine o_step rfl (s_assign rfl) ?_
        refine o_nil ?_
        refine x_then (hK24 _ _ ?_)
        refine c_seq fun _ hK25 => ?_
        refine c_region ?_
        refine o_step rfl (s_ld rfl (.own meA rfl)) ?_
        refine o_step rfl (s_move rfl) ?_
        refine o_callC (us := []) (vs := [_]) (cs := [.pointer (some ⟨bre, 0, none⟩), .pointer (some ⟨bput, 0, none⟩), .pointer (some ⟨bm, 0, none⟩), .pointer (some ⟨bnode, 0, none⟩), .pointer (some ⟨bends, 0, none⟩)]) ((ih y ks1 hsz2) bre bends bm bput bnode be ra rc re l Se a88 c88 (m2 ++ [(⟨5, 0, (m2.length + 1 : Nat), 0⟩ : In)]) Sn88 kp (kp + 1 + ks1.size) hre hE hL hrl hpy1 hn88 (by omega)) rfl rfl rfl ((Pick.takeC pkA (Pick.takeA pkA (Pick.takeC pkA (Pick.takeC pkA (Pick.takeC pkA (Pick.takeC pkA pkA))))))) (fun w st => ⟨(RdK.old hw.1 hw.2).out w st, St.apart_M st (by exact hiB) hw.1 hw.2 (by decide)⟩) (fun v91 S91 ⟨a91, c91, Sn91, hv91, hn91⟩ => ?_)
        subst hv91
        have hl4 : ((m2 ++ [(⟨5, 0, (m2.length + 1 : Nat), 0⟩ : In)]) ++ codeOne y ks1 (m2 ++ [(⟨5, 0, (m2.length + 1 : Nat), 0⟩ : In)]).length).length = m2.length + 1 + lenT y ks1 := by rw [List.length_append, codeOne_len, hl3]
        refine o_nil ?_
        refine x_then (hK25 _ _ ?_)
        refine c_seq fun _ hK26 => ?_
        refine c_region ?_
        refine o_step rfl (s_move rfl) ?_
        refine o_step rfl (s_ld rfl (.own meA rfl)) ?_
        refine o_step rfl (step_cast (v' := .agg (Ein (⟨4, 0, 0, 0⟩ : In)).toArray) (s_build (cs := [_, _, _, _, _, _, _]) (vs := [_]) rfl rfl (.cons rfl rfl rfl rfl rfl (.nil))) (by rw [Ein_zero]; try rfl)) ?_
        refine o_callC (us := []) (vs := [_]) (cs := [.pointer (some ⟨bm, 0, none⟩)]) (put_fn (⟨4, 0, 0, 0⟩ : In) bm a91 c91 ((m2 ++ [(⟨5, 0, (m2.length + 1 : Nat), 0⟩ : In)]) ++ codeOne y ks1 (m2 ++ [(⟨5, 0, (m2.length + 1 : Nat), 0⟩ : In)]).length) Sn91 hn91 (by omega)) rfl rfl rfl ((Pick.takeC pkA pkA)) (fun _ _ => trivial) (fun v95 S95 ⟨hw95, a95, c95, Sn95, hv95, hn95⟩ => ?_)
        subst hw95
        subst hv95
        have hl5 : (((m2 ++ [(⟨5, 0, (m2.length + 1 : Nat), 0⟩ : In)]) ++ codeOne y ks1 (m2 ++ [(⟨5, 0, (m2.length + 1 : Nat), 0⟩ : In)]).length) ++ [(⟨4, 0, 0, 0⟩ : In)]).length = m2.length + 1 + lenT y ks1 + 1 := by rw [List.length_append, hl4]; rfl
        have hn95s := hn95.sl
        have hA5 : (((m2 ++ [(⟨5, 0, (m2.length + 1 : Nat), 0⟩ : In)]) ++ codeOne y ks1 (m2 ++ [(⟨5, 0, (m2.length + 1 : Nat), 0⟩ : In)]).length) ++ [(⟨4, 0, 0, 0⟩ : In)]) = m2 ++ ((⟨5, 0, (m2.length + 1 : Nat), 0⟩ : In) :: (codeOne y ks1 (m2.length + 1) ++ [(⟨4, 0, 0, 0⟩ : In)])) := by rw [hl3]; simp
        refine o_bs (E := Eix) (xs := [((m2 ++ [(⟨5, 0, (m2.length + 1 : Nat), 0⟩ : In)]) ++ codeOne y ks1 (m2 ++ [(⟨5, 0, (m2.length + 1 : Nat), 0⟩ : In)]).length).length]) (vs := [_]) rfl rfl rfl rfl rfl (by decide) (by decide) fun b96 S96 hS96 => ?_
        refine o_app hJ (hS96.rdk hiA) rfl rfl rfl rfl (by simp only [List.length_singleton]; omega) (by simp only [List.length_singleton]; omega) rfl pkA fun a97 c97 S97 hS97 => ?_
        refine o_step rfl (s_assign rfl) ?_
        refine o_nil ?_
        refine x_then (hK26 _ _ ?_)
        refine c_region ?_
        refine o_step rfl (s_ld rfl (.own meA rfl)) ?_
        refine o_step rfl (s_move rfl) ?_
        refine o_step rfl (s_ld rfl (.own meA rfl)) ?_
        refine o_step rfl (s_len rfl) ?_
        refine o_step rfl (s_idx rfl rfl hn95s (by omega)) ?_
        refine o_step rfl (s_field rfl rfl (by decide)) ?_
        refine o_stS (i := m2.length) (off := 6) (cs := [.int .i64 ((((m2 ++ [(⟨5, 0, (m2.length + 1 : Nat), 0⟩ : In)]) ++ codeOne y ks1 (m2 ++ [(⟨5, 0, (m2.length + 1 : Nat), 0⟩ : In)]).length) ++ [(⟨4, 0, 0, 0⟩ : In)]).length : Nat)]) ⟨5, 0, (m2.length + 1 : Nat), ((((m2 ++ [(⟨5, 0, (m2.length + 1 : Nat), 0⟩ : In)]) ++ codeOne y ks1 (m2 ++ [(⟨5, 0, (m2.length + 1 : Nat), 0⟩ : In)]).length) ++ [(⟨4, 0, 0, 0⟩ : In)]).length : Nat)⟩ hn95 pkA rfl rfl rfl rfl (by rw [hl5]; omega) (by first | rfl | (rw [Int.toNat_natCast]; first | done | rfl)) (by simp) (fun e he => by rw [hA5, get_mid rfl] at he; cases he; rfl) (by simp [Value.oneCell']) fun S' hS' => ?_
        have hset6 : (((m2 ++ [(⟨5, 0, (m2.length + 1 : Nat), 0⟩ : In)]) ++ codeOne y ks1 (m2 ++ [(⟨5, 0, (m2.length + 1 : Nat), 0⟩ : In)]).length) ++ [(⟨4, 0, 0, 0⟩ : In)]).set m2.length ⟨5, 0, (m2.length + 1 : Nat), ((((m2 ++ [(⟨5, 0, (m2.length + 1 : Nat), 0⟩ : In)]) ++ codeOne y ks1 (m2 ++ [(⟨5, 0, (m2.length + 1 : Nat), 0⟩ : In)]).length) ++ [(⟨4, 0, 0, 0⟩ : In)]).length : Nat)⟩ = (m2 ++ ((⟨5, 0, (m2.length + 1 : Nat), (m2.length + 1 + lenT y ks1 + 1 : Nat)⟩ : In) :: (codeOne y ks1 (m2.length + 1) ++ [(⟨4, 0, 0, 0⟩ : In)]))) := by rw [hl5, hA5, set_mid rfl]
        refine o_nil ?_
        refine x_block ?_
        refine x_then (hK14 _ _ ?_)
        refine c_region ?_
        refine o_step rfl (s_ld rfl (.own meA rfl)) ?_
        refine o_step rfl (s_move rfl) ?_
        refine o_step rfl (s_idx rfl rfl hLs (by omega)) ?_
        refine o_step rfl (s_ld rfl ((hL.rdk hiA).ld kp 0 hge rfl (by decide) (by omega))) ?_
        refine o_step rfl (s_assign rfl) ?_
        refine o_nil ?_
        have hA6l : (m2 ++ ((⟨5, 0, (m2.length + 1 : Nat), (m2.length + 1 + lenT y ks1 + 1 : Nat)⟩ : In) :: (codeOne y ks1 (m2.length + 1) ++ [(⟨4, 0, 0, 0⟩ : In)]))).length = (((m2 ++ [(⟨5, 0, (m2.length + 1 : Nat), 0⟩ : In)]) ++ codeOne y ks1 (m2 ++ [(⟨5, 0, (m2.length + 1 : Nat), 0⟩ : In)]).length) ++ [(⟨4, 0, 0, 0⟩ : In)]).length := by rw [← hset6, List.length_set]
        have q1 : (m2 ++ ((⟨5, 0, (m2.length + 1 : Nat), (m2.length + 1 + lenT y ks1 + 1 : Nat)⟩ : In) :: (codeOne y ks1 (m2.length + 1) ++ [(⟨4, 0, 0, 0⟩ : In)]))) ++ code (.nd z js s) true (m2 ++ ((⟨5, 0, (m2.length + 1 : Nat), (m2.length + 1 + lenT y ks1 + 1 : Nat)⟩ : In) :: (codeOne y ks1 (m2.length + 1) ++ [(⟨4, 0, 0, 0⟩ : In)]))).length 0 = m ++ code ks true m.length 0 := by rw [← hmc, alt_step, hA6l, hl5]
        have q2 : (jl.xs ++ [((m2 ++ [(⟨5, 0, (m2.length + 1 : Nat), 0⟩ : In)]) ++ codeOne y ks1 (m2 ++ [(⟨5, 0, (m2.length + 1 : Nat), 0⟩ : In)]).length).length]) ++ jmps (.nd z js s) (m2 ++ ((⟨5, 0, (m2.length + 1 : Nat), (m2.length + 1 + lenT y ks1 + 1 : Nat)⟩ : In) :: (codeOne y ks1 (m2.length + 1) ++ [(⟨4, 0, 0, 0⟩ : In)]))).length = jmps ks m.length := by rw [← hjl, jmps_more, hA6l, hl5, hl4, show m2.length + 1 + lenT y ks1 + 1 = m2.length + lenT y ks1 + 2 by omega, List.append_assoc]; rfl
        have q3 : (m2 ++ ((⟨5, 0, (m2.length + 1 : Nat), (m2.length + 1 + lenT y ks1 + 1 : Nat)⟩ : In) :: (codeOne y ks1 (m2.length + 1) ++ [(⟨4, 0, 0, 0⟩ : In)]))).length + lenM (.nd z js s) true = m.length + lenM ks true := by rw [hA6l, hl5, ← hml]; omega
        have q4 : (jl.xs ++ [((m2 ++ [(⟨5, 0, (m2.length + 1 : Nat), 0⟩ : In)]) ++ codeOne y ks1 (m2 ++ [(⟨5, 0, (m2.length + 1 : Nat), 0⟩ : In)]).length).length]).length + (F.nd z js s).size ≤ ks.size := by rw [List.length_append, List.length_singleton]; omega
        have q6 : (F.nd z js s).size ≤ ks.size := by omega
        rw [hset6, ← hA6l] at hS'
        exact x_then (x_inv (kp + 1 + ks1.size, (.nd z js s), (m2 ++ ((⟨5, 0, (m2.length + 1 : Nat), (m2.length + 1 + lenT y ks1 + 1 : Nat)⟩ : In) :: (codeOne y ks1 (m2.length + 1) ++ [(⟨4, 0, 0, 0⟩ : In)]))), a95, c95, S', ⟨a97, c97, jl.xs ++ [((m2 ++ [(⟨5, 0, (m2.length + 1 : Nat), 0⟩ : In)]) ++ codeOne y ks1 (m2 ++ [(⟨5, 0, (m2.length + 1 : Nat), 0⟩ : In)]).length).length]⟩, S97) ⟨hpt, (by simp), q6, q1, q2, q3, q4, hS', hS97⟩ (by simp only [F.size]; omega) sbA (by dsimp only; rw [hA6l]; exact hzB))
      ·
       have hlt := lenT_c (ks := ks) h1 h2 h3 h5 h6
       refine o_step rfl (step_cast (v' := .bool false) (s_eql rfl rfl) (by rw [decide_eq_false h5])) ?_
       refine o_step rfl (s_assign rfl) ?_
       refine o_nil ?_
       refine x_then (hK8 _ _ ?_)
       refine c_false rfl ?_
       refine c_seq fun _ hK27 => ?_
       refine c_region ?_
       refine o_step rfl (s_ld rfl (.own meA rfl)) ?_
       refine o_step rfl (s_add rfl rfl (by omega)) ?_
       refine o_step rfl (s_assign rfl) ?_
       refine o_nil ?_
       refine x_then (hK27 _ _ ?_)
       refine c_block ?_
       refine c_loop6 (fun (kp : Nat) (r : F) (m2 : List In) (ma2 : Option Addr) (mc2 : Nat) (Sm2 : Hp) => Part re r kp (i + 1 + ks.size) ∧ r.size ≤ ks.size ∧ m2 ++ code r false m2.length 0 = m ++ code ks false m.length 0 ∧ m2.length + lenM r false = m.length + lenM ks false ∧ OwnS Ein 7 109 (.slice ma2 m2.length mc2) m2 Sm2) (fun (kp : Nat) (r : F) (m2 : List In) (ma2 : Option Addr) (mc2 : Nat) (Sm2 : Hp) => [(13, .int .i64 kp)]) [(4, _), (5, _), (6, _)] (fun (kp : Nat) (r : F) (m2 : List In) (ma2 : Option Addr) (mc2 : Nat) (Sm2 : Hp) => (bm, .cells [.slice ma2 m2.length mc2].toArray 89 (0, 0)) :: (Sm2 ++ (((bre, .cells [.slice ra re.length rc].toArray 22 (0, 0)) :: (bends, .cells [.slice (some ⟨be, 0, none⟩) re.length re.length].toArray 65 (0, 0)) :: (bput, .cells [.func (.func 51) [].toArray [.pointer (some ⟨bm, 0, none⟩)].toArray].toArray 110 (0, 0)) :: (bnode, .cells [.func (.func 52) [].toArray [.pointer (some ⟨bre, 0, none⟩), .pointer (some ⟨bput, 0, none⟩), .pointer (some ⟨bm, 0, none⟩), .pointer (some ⟨bnode, 0, none⟩), .pointer (some ⟨bends, 0, none⟩)].toArray].toArray 111 (0, 0)) :: (Se ++ [(b7, .cells (En x).toArray 85 (0, 0)), (b6, .cells [.int .i64 i].toArray 3 (0, 0))]))))) (fun (kp : Nat) (r : F) (m2 : List In) (ma2 : Option Addr) (mc2 : Nat) (Sm2 : Hp) => r.size) (i + 1) ks m ma mc Sm ⟨hpk, Nat.le_refl _, rfl, rfl, hO⟩ sbA sbA hzB ?_
       rintro kp r m2 ma2 mc2 Sm2 ⟨hpr, hrs, hmc, hml, hO2⟩
       have hprl := hpr.len
       have hprle := hpr.le
       refine c_seq fun _ hK28 => ?_
       refine c_seq fun _ hK29 => ?_
       refine c_region ?_
       refine o_step rfl (s_move rfl) ?_
       refine o_step rfl (s_ld rfl (.own meA rfl)) ?_
       refine o_step rfl (s_ld rfl (.own meA rfl)) ?_
       refine o_step rfl (s_idx rfl rfl hLs (by omega)) ?_
       refine o_step rfl (s_ld rfl ((hL.rdk hiA).ld i 0 hei rfl (by decide) (by omega))) ?_
       by_cases hk : (kp : Int) < i + 1 + ks.size
       ·
        obtain ⟨y, ks1, r2, rfl⟩ : ∃ y ks1 r2, r = F.nd y ks1 r2 := by cases r with | nil => simp [F.size] at hprl; omega | nd y a b => exact ⟨y, a, b, rfl⟩
        obtain ⟨hy, hpy, hpt⟩ := hpr.head
        have hpy1 : Part re (.nd y ks1 .nil) kp (kp + 1 + ks1.size) := hpr.one
        have hsz2 : ks1.size < ks.size := by simp only [F.size] at hrs; omega
        have hlt2 := (List.getElem?_eq_some_iff.1 hy).1
        have hge := hE.2 kp y ks1 r2 _ (Nat.zero_le _) hpr
        rw [lenM_cat] at hml
        refine o_step rfl (step_cast (v' := .bool true) (s_lss rfl rfl) (by rw [decide_eq_true (by omega)])) ?_
        refine o_nil ?_
        refine x_then (hK29 _ _ ?_)
        refine c_true rfl ?_
        refine c_skip ?_
        refine x_then (hK28 _ _ ?_)
        refine c_seq fun _ hK30 => ?_
        refine c_block ?_
        refine c_region ?_
        refine o_step rfl (s_ld rfl (.own meA rfl)) ?_
        refine o_step rfl (s_move rfl) ?_
        refine o_callC (us := []) (vs := [_]) (cs := [.pointer (some ⟨bre, 0, none⟩), .pointer (some ⟨bput, 0, none⟩), .pointer (some ⟨bm, 0, none⟩), .pointer (some ⟨bnode, 0, none⟩), .pointer (some ⟨bends, 0, none⟩)]) ((ih y ks1 hsz2) bre bends bm bput bnode be ra rc re l Se ma2 mc2 m2 Sm2 kp (kp + 1 + ks1.size) hre hE hL hrl hpy1 hO2 (by omega)) rfl rfl rfl ((Pick.takeC pkA (Pick.takeA pkA (Pick.takeC pkA (Pick.takeC pkA (Pick.takeC pkA (Pick.takeC pkA pkA))))))) (fun w st => ⟨(RdK.old hw.1 hw.2).out w st, St.apart_M st (by exact hiB) hw.1 hw.2 (by decide)⟩) (fun v34 S34 ⟨a34, c34, Sn34, hv34, hn34⟩ => ?_)
        subst hv34
        refine o_nil ?_
        refine x_block ?_
        refine x_then (hK30 _ _ ?_)
        refine c_region ?_
        refine o_step rfl (s_ld rfl (.own meA rfl)) ?_
        refine o_step rfl (s_move rfl) ?_
        refine o_step rfl (s_idx rfl rfl hLs (by omega)) ?_
        refine o_step rfl (s_ld rfl ((hL.rdk hiA).ld kp 0 hge rfl (by decide) (by omega))) ?_
        refine o_step rfl (s_assign rfl) ?_
        refine o_nil ?_
        exact x_then (x_inv (kp + 1 + ks1.size, r2, (m2 ++ codeOne y ks1 m2.length), a34, c34, Sn34) ⟨hpt, by simp only [F.size] at hrs; dsimp only; omega, by rw [← hmc, code_cat, List.length_append, codeOne_len]; simp, by dsimp only; rw [List.length_append, codeOne_len]; omega, hn34⟩ (by simp only [F.size]; omega) sbA hzB)
       ·
        obtain rfl : r = F.nil := F.size_nil (by omega)
        refine o_step rfl (step_cast (v' := .bool false) (s_lss rfl rfl) (by rw [decide_eq_false (by omega)])) ?_
        refine o_nil ?_
        refine x_then (hK29 _ _ ?_)
        refine c_false rfl ?_
        refine c_exit ?_
        refine x_then_exit ?_
        refine x_then_exit ?_
        refine x_block_exit ?_
        refine x_block ?_
        have hfin : m2 = m ++ codeOne x ks m.length := by rw [codeOne_c h1 h2 h3 h5 h6, ← hmc]; simp [code]
        rw [hfin] at hO2
        refine x_sub (Sub.refl _) (H' := ((bm, .cells [.slice ma2 (m ++ codeOne x ks m.length).length mc2].toArray 89 (0, 0)) :: (Sm2 ++ ((bre, .cells [.slice ra re.length rc].toArray 22 (0, 0)) :: (bends, .cells [.slice (some ⟨be, 0, none⟩) re.length re.length].toArray 65 (0, 0)) :: (bput, .cells [.func (.func 51) [].toArray [.pointer (some ⟨bm, 0, none⟩)].toArray].toArray 110 (0, 0)) :: (bnode, .cells [.func (.func 52) [].toArray [.pointer (some ⟨bre, 0, none⟩), .pointer (some ⟨bput, 0, none⟩), .pointer (some ⟨bm, 0, none⟩), .pointer (some ⟨bnode, 0, none⟩), .pointer (some ⟨bends, 0, none⟩)].toArray].toArray 111 (0, 0)) :: Se)))) (by rw [← hfin]; exact hzB) ?_
        exact x_end rfl (.nil) (⟨_, _, _, rfl, hO2⟩)
end Go.Proofs.Ytmpeokbongnniaa

/- Part of the proofs over this seat: see the text that holds the theorem. Conditions: each theorem bears its own. -/
namespace Go.Proofs.Ytmpeokbongnniaa
open Go Go.HL Go.Proofs Go.HL.Kl Go.HL.Kl.Mc
theorem nd_fn : ∀ (n : Nat) (x : Nd) (ks : F), ks.size < n → NdC Try.prog x ks := by
  intro n
  induction n with
  | zero => intro x ks h; omega
  | succ n ih => exact fun x ks h bre bends bm bput bnode be ra rc re l Se ma mc m Sm i i1 h1 h2 h3 h4 h5 h6 h7 => nd_step x ks (fun y js hs => ih y js (by omega)) bre bends bm bput bnode be ra rc re l Se h1 h2 h3 h4 ma mc m Sm i i1 h5 h6 h7

set_option maxHeartbeats 1000000 in
theorem compileO_fn (ra : Option Addr) (rc : Nat) (re : List Nd) (hre : ∀ x ∈ re, -128 ≤ x.op ∧ x.op < 128) : HL.Fn Try.prog 41 [.slice ra re.length rc] (fun w => Rd En w (.slice ra re.length rc) re) [] (CompO 109 re) := by
  refine fn_of Try.func41 rfl rfl rfl fun w0 hw => ?_
  have hsl := hw.sl
  have hbl := hsl.le
  refine c_seq fun _ hK1 => ?_
  refine c_region ?_
  refine o_box rfl rfl rfl fun b1 => ?_
  refine o_step rfl (s_assign rfl) ?_
  refine o_step rfl (s_assign rfl) ?_
  refine o_nil ?_
  refine x_then (hK1 _ _ ?_)
  refine c_seq fun _ hK2 => ?_
  refine c_seq fun _ hK3 => ?_
  refine c_region ?_
  refine o_step rfl (s_ld rfl (.own meA rfl)) ?_
  refine o_callP (shaped_fn ra rc re hre) rfl rfl rfl (fun w st => (RdK.old0 hw).out w st) (fun v9 hv9 => ?_)
  subst hv9
  cases hs : shapedB re
  ·
   refine o_step rfl (s_not rfl) ?_
   refine o_nil ?_
   refine x_then (hK3 _ _ ?_)
   refine c_true rfl ?_
   refine c_seq fun _ hK4 => ?_
   refine c_region ?_
   refine o_step rfl (s_assign rfl) ?_
   refine o_step rfl (s_assign rfl) ?_
   refine o_nil ?_
   refine x_then (hK4 _ _ ?_)
   refine c_ret ?_
   refine x_then_ret (?_)
   refine x_sub (Sub.refl _) (H' := []) hzB ?_
   exact x_ret rfl (.tmp rfl (.tmp rfl (.nil))) ((.shape hs rfl rfl))
  ·
   obtain ⟨_, x, ks, hsh⟩ := shapedB_iff.1 hs
   have hpt := hsh.part
   have hlT := hsh.lenT
   have hrl := hsh.len
   refine o_step rfl (s_not rfl) ?_
   refine o_nil ?_
   refine x_then (hK3 _ _ ?_)
   refine c_false rfl ?_
   refine c_skip ?_
   refine x_then (hK2 _ _ ?_)
   refine c_seq fun _ hK5 => ?_
   refine c_seq fun _ hK6 => ?_
   refine c_region ?_
   refine o_step rfl (s_ld rfl (.own meA rfl)) ?_
   refine o_callP (refs_fn ra rc re hre) rfl rfl rfl (fun w st => (RdK.old0 hw).out w st) (fun v12 hv12 => ?_)
   subst hv12
   cases hr : refsB re
   ·
    refine o_nil ?_
    refine x_then (hK6 _ _ ?_)
    refine c_false rfl ?_
    refine c_skip ?_
    refine x_then (hK5 _ _ ?_)
    refine c_seq fun _ hK7 => ?_
    refine c_region ?_
    refine o_step rfl (s_ld rfl (.own meA rfl)) ?_
    refine o_call (behinds_fn ra rc re hre x ks hpt (by omega)) rfl rfl rfl (by exact .nil) (fun w st => (RdK.old0 hw).out w st) (fun v14 S14 ⟨be, l, hv14, hL, hE⟩ => ?_)
    subst hv14
    refine o_alloc rfl rfl fun b4 => ?_
    refine o_store rfl rfl rfl upA ltA rfl ?_
    refine o_nil ?_
    refine x_then (hK7 _ _ ?_)
    refine c_seq fun _ hK8 => ?_
    refine c_region ?_
    refine o_alloc rfl rfl fun b5 => ?_
    refine o_nil ?_
    refine x_then (hK8 _ _ ?_)
    refine c_seq fun _ hK9 => ?_
    refine c_region ?_
    refine o_step rfl (s_func (us := []) (vs := [_]) rfl rfl) ?_
    refine o_alloc rfl rfl fun b6 => ?_
    refine o_store rfl rfl rfl upA ltA rfl ?_
    refine o_nil ?_
    refine x_then (hK9 _ _ ?_)
    refine c_seq fun _ hK10 => ?_
    refine c_region ?_
    refine o_alloc rfl rfl fun b7 => ?_
    refine o_nil ?_
    refine x_then (hK10 _ _ ?_)
    refine c_seq fun _ hK11 => ?_
    refine c_region ?_
    refine o_step rfl (s_func (us := []) (vs := [_, _, _, _, _]) rfl rfl) ?_
    refine o_store rfl rfl rfl upA ltA rfl ?_
    refine o_nil ?_
    refine x_then (hK11 _ _ ?_)
    refine c_seq fun _ hK12 => ?_
    refine c_region ?_
    refine o_step rfl (s_ld rfl (.own meA rfl)) ?_
    refine o_callC (us := []) (vs := [_]) (cs := [.pointer (some ⟨b1, 0, none⟩), .pointer (some ⟨b6, 0, none⟩), .pointer (some ⟨b5, 0, none⟩), .pointer (some ⟨b7, 0, none⟩), .pointer (some ⟨b4, 0, none⟩)]) (nd_fn (ks.size + 1) x ks (by omega) b1 b4 b5 b6 b7 be ra rc re l S14 none 0 [] [] 0 re.length hre hE hL (by omega) hpt .nil (by simp; omega)) rfl rfl rfl ((Pick.takeC pkA (Pick.takeA pkA (Pick.takeC pkA (Pick.takeC pkA (Pick.takeC pkA (Pick.takeC pkA pkA))))))) (fun w st => ⟨(RdK.old0 hw).out w st, St.apart_M st (by exact hiB) hw (Apart.nil) (by decide)⟩) (fun v18 S18 ⟨a18, c18, Sn18, hv18, hn18⟩ => ?_)
    subst hv18
    have hl18 : ([] ++ codeOne x ks ([] : List In).length).length = lenT x ks := by rw [List.nil_append, codeOne_len]
    refine o_nil ?_
    refine x_then (hK12 _ _ ?_)
    refine c_seq fun _ hK13 => ?_
    refine c_region ?_
    refine o_step rfl (s_ld rfl (.own meA rfl)) ?_
    refine o_step rfl (step_cast (v' := .agg (Ein (⟨6, 0, 0, 0⟩ : In)).toArray) (s_build (cs := [_, _, _, _, _, _, _]) (vs := [_]) rfl rfl (.cons rfl rfl rfl rfl rfl (.nil))) (by rw [Ein_zero]; try rfl)) ?_
    refine o_callC (us := []) (vs := [_]) (cs := [.pointer (some ⟨b5, 0, none⟩)]) (put_fn ⟨6, 0, 0, 0⟩ b5 a18 c18 ([] ++ codeOne x ks ([] : List In).length) Sn18 hn18 (by omega)) rfl rfl rfl ((Pick.takeC pkA pkA)) (fun _ _ => trivial) (fun v21 S21 ⟨hw21, a21, c21, Sn21, hv21, hn21⟩ => ?_)
    subst hw21
    subst hv21
    have hma : ([] ++ codeOne x ks ([] : List In).length) ++ [(⟨6, 0, 0, 0⟩ : In)] = mach (.nd x ks .nil) := by rw [mach_one]; rfl
    rw [hma] at hn21
    rw [hma]
    have hn21s := hn21.sl
    obtain ⟨_, c21x, hcx, hcl, _⟩ := hn21s.out
    have hcx2 : c21x = c21 := by cases hcx; rfl
    refine o_nil ?_
    refine x_then (hK13 _ _ ?_)
    refine c_seq fun _ hK14 => ?_
    refine c_region ?_
    refine o_step rfl (s_ld rfl (.own meA rfl)) ?_
    refine o_step rfl (s_ld rfl (.own meA rfl)) ?_
    refine o_step rfl (s_len rfl) ?_
    refine o_step rfl (s_ld rfl (.own meA rfl)) ?_
    refine o_step rfl (s_len rfl) ?_
    refine o_step rfl (step_cast (v' := .slice a21 (mach (.nd x ks .nil)).length (mach (.nd x ks .nil)).length) (s_slice3 rfl rfl rfl (by omega)) (by rw [Int.toNat_natCast])) ?_
    refine o_step rfl (s_assign rfl) ?_
    refine o_step rfl (s_assign rfl) ?_
    refine o_nil ?_
    refine x_then (hK14 _ _ ?_)
    refine c_ret ?_
    refine ?_
    refine x_sub (Sub.refl _) (H' := Sn21) hzB ?_
    exact x_ret rfl (.tmp rfl (.tmp rfl (.nil))) ((.ok hs hr hsh rfl (hn21.cut _ (Nat.le_refl _) (by omega))))
   ·
    refine o_nil ?_
    refine x_then (hK6 _ _ ?_)
    refine c_true rfl ?_
    refine c_seq fun _ hK15 => ?_
    refine c_region ?_
    refine o_step rfl (s_assign rfl) ?_
    refine o_step rfl (s_assign rfl) ?_
    refine o_nil ?_
    refine x_then (hK15 _ _ ?_)
    refine c_ret ?_
    refine x_then_ret (?_)
    refine x_sub (Sub.refl _) (H' := []) hzB ?_
    exact x_ret rfl (.tmp rfl (.tmp rfl (.nil))) ((.ref hs hr rfl rfl))

end Go.Proofs.Ytmpeokbongnniaa
