/- Part of the proofs over this seat: see the text that holds the theorem. Conditions: each theorem bears its own. -/
import Derived.Test.YtiggliigookieaaDoorQN20Z
import Derived.Test.YtiggliigookieaaDoorMT8Z
import Derived.Test.YtiggliigookieaaDoorQF1Z
import Derived.Test.YtiggliigookieaaDoorHlB
import GoSem.Instr.MapUpdate
import GoSem.Instr.MakeMap
namespace Go.Proofs.YtiggliigookieaaDoor
open Go Go.HL Go.Proofs Go.HL.Kl Go.HL.Kl.Mc
set_option maxHeartbeats 2000000 in
theorem over_step (w : List UInt8) (x : Nd) (ks : F) (ih : ∀ y js, js.size < ks.size → OverC Tryd.prog 64 w y js) (ra : Option Addr) (rc : Nat) (re : List Nd) (ta : Option Addr) (tc i i1 : Nat) (fa : Option Addr) (fc : Nat) (fr : List Bool) (S : Nat → Prop) (hre : ∀ x ∈ re, -128 ≤ x.op ∧ x.op < 128) (hr8 : ∀ x ∈ re, ¬ x.op = 8) (hwl : w.length ≤ 1000000) (hp : Part re (.nd x ks .nil) i i1) (hS : IsS fr w.length S) (hSb : ∀ p, S p → p ≤ w.length) : HL.Fn Tryd.prog 64 [.slice ra re.length rc, .int .i64 i, .slice ta w.length tc, .slice fa fr.length fc] (fun W => Rd En W (.slice ra re.length rc) re ∧ Rd Eb W (.slice ta w.length tc) w ∧ Rd Ebo W (.slice fa fr.length fc) fr) [] (OutP w.length (img (der1 w x ks) S) (.slice fa fr.length fc) fr) := by
  refine fn_of Tryd.func64 rfl rfl rfl fun w0 hw => ?_
  obtain ⟨hx, hpk, _⟩ := hp.head
  have hilt := (List.getElem?_eq_some_iff.1 hx).1
  have hsl := hw.1.sl
  have hbl := hsl.le
  have hst := hw.2.1.sl
  have hsf := hw.2.2.sl
  have hfl := hS.len
  have hox := hre x (List.mem_of_getElem? hx)
  have hx8 := hr8 x (List.mem_of_getElem? hx)
  have hok : ndOk x = true := hp.wf.1
  have hop : 1 ≤ x.op ∧ x.op ≤ 8 := (flds_iff.1 (by simp only [ndOk, Bool.and_eq_true] at hok; exact hok.1)).1
  have hkn : (ks.num : Int) = x.kids := hp.wf.2.1
  have hpkl := hpk.le
  have hkl := F.num_le ks
  refine c_seq fun _ hK1 => ?_
  refine c_region ?_
  refine o_step rfl (s_assign rfl) ?_
  refine o_nil ?_
  refine x_then (hK1 _ _ ?_)
  refine c_seq fun _ hK2 => ?_
  refine c_region ?_
  refine o_step rfl (s_move rfl) ?_
  refine o_step rfl (s_len rfl) ?_
  refine o_step rfl (s_add rfl rfl (by omega)) ?_
  refine o_make (E := Ebo) (zx := false) (n := w.length + 1) rfl rfl rfl (by omega) (by omega) rfl fun b20 S20 hS20 => ?_
  have hS20s := hS20.sl
  rw [List.length_replicate] at hS20s
  refine o_step rfl (s_assign rfl) ?_
  refine o_nil ?_
  refine x_then (hK2 _ _ ?_)
  refine c_seq fun _ hK3 => ?_
  refine c_region ?_
  refine o_step rfl (s_move rfl) ?_
  refine o_step rfl (s_move rfl) ?_
  refine o_step rfl (s_idx rfl rfl hsl (by omega)) ?_
  refine o_step rfl (s_ldB rfl ((RdK.old0 hw.1).lds i hx rfl) (by rfl)) ?_
  refine o_alloc (l := En zN) (by rw [En_zero]; rfl) rfl fun b10 => ?_
  refine o_stW rfl rfl upA lnA lnA onA ?_
  refine o_nil ?_
  refine x_then (hK3 _ _ ?_)
  refine c_seq fun _ hK4 => ?_
  refine c_seq fun _ hK5 => ?_
  refine c_region ?_
  refine o_step rfl (s_field rfl rfl (by decide)) ?_
  refine o_step rfl (s_ld rfl (.own meA rfl)) ?_
  refine o_step rfl (s_convI rfl (by omega)) ?_
  refine o_nil ?_
  refine x_then (hK5 _ _ ?_)
  refine c_block ?_
  refine c_seq fun _ hK6 => ?_
  refine c_region ?_
  by_cases h1 : x.op = 1
  ·
   refine o_step rfl (step_cast (v' := .bool true) (s_eql rfl rfl) (by rw [decide_eq_true h1])) ?_
   refine o_step rfl (s_assign rfl) ?_
   refine o_nil ?_
   refine x_then (hK6 _ _ ?_)
   refine c_true rfl ?_
   refine c_seq fun _ hK7 => ?_
   refine c_region ?_
   refine o_step rfl (s_assign rfl) ?_
   refine o_nil ?_
   refine x_then (hK7 _ _ ?_)
   refine c_block ?_
   refine c_loop3 (fun (j : Nat) (out : List Bool) (So : Hp) => j ≤ w.length ∧ SetP w x.set fr j out ∧ OwnS Ebo 1 4 (.slice (some ⟨b20, 0, none⟩) (w.length + 1) (w.length + 1)) out So) (fun (j : Nat) (out : List Bool) (So : Hp) => [(11, .int .i64 j)]) [(2, _), (3, _), (8, _), (9, _), (10, _)] (fun (j : Nat) (out : List Bool) (So : Hp) => (b10, .cells (En x).toArray 70 (0, 0)) :: So) (fun (j : Nat) (out : List Bool) (So : Hp) => w.length - j) 0 _ S20 ⟨by omega, .zero, hS20⟩ sbA sbA hzB ?_
   rintro j out So ⟨hj, hP, hO⟩
   have hOs := hO.sl
   rw [hP.len] at hOs
   refine c_seq fun _ hK8 => ?_
   refine c_seq fun _ hK9 => ?_
   refine c_region ?_
   refine o_step rfl (s_move rfl) ?_
   refine o_step rfl (s_move rfl) ?_
   refine o_step rfl (s_len rfl) ?_
   by_cases hjw : j < w.length
   ·
    obtain ⟨y, hy⟩ : ∃ y, w[j]? = some y := ⟨_, List.getElem?_eq_getElem hjw⟩
    refine o_step rfl (step_cast (v' := .bool true) (s_lss rfl rfl) (by rw [decide_eq_true (by omega)])) ?_
    refine o_nil ?_
    refine x_then (hK9 _ _ ?_)
    refine c_true rfl ?_
    refine c_skip ?_
    refine x_then (hK8 _ _ ?_)
    refine c_seq fun _ hK10 => ?_
    refine c_block ?_
    refine c_drawE ([(b10, .cells (En x).toArray 70 (0, 0))]) (fun i => false) ?_
    refine e_take 0 rfl (by kernel_rfl) (by kernel_rfl) (by kernel_rfl) (by kernel_rfl) (fun _ _ => rfl) rfl hzB (s_move rfl) ?_
    refine e_take 1 rfl (by kernel_rfl) (by kernel_rfl) (by kernel_rfl) (by kernel_rfl) (fun _ _ => rfl) rfl hzB (s_move rfl) ?_
    refine e_take 2 rfl (by kernel_rfl) (by kernel_rfl) (by kernel_rfl) (by kernel_rfl) (fun _ _ => rfl) rfl hzB (s_add rfl rfl (by omega)) ?_
    refine e_take 3 rfl (by kernel_rfl) (by kernel_rfl) (by kernel_rfl) (by kernel_rfl) (fun _ _ => rfl) rfl hzB (s_move rfl) ?_
    refine e_take 4 rfl (by kernel_rfl) (by kernel_rfl) (by kernel_rfl) (by kernel_rfl) (fun _ _ => rfl) rfl hzB (s_move rfl) ?_
    refine e_take 5 rfl (by kernel_rfl) (by kernel_rfl) (by kernel_rfl) (by kernel_rfl) (fun _ _ => rfl) rfl hzB (s_idx rfl rfl hsf (by omega)) ?_
    by_cases hf : bo0 fr j = true
    ·
     refine e_take 6 rfl (by kernel_rfl) (by kernel_rfl) (by kernel_rfl) (by kernel_rfl) (fun _ _ => rfl) rfl hzB (step_cast (v' := .bool true) (s_ld rfl ((RdK.old0 hw.2.2).ld j 0 (bo0_get (by omega)) rfl (by decide) (by omega))) (by rw [hf])) ?_
     refine e_take 7 rfl (by kernel_rfl) (by kernel_rfl) (by kernel_rfl) (by kernel_rfl) (fun _ _ => rfl) rfl hzB (s_move rfl) ?_
     refine e_take 8 rfl (by kernel_rfl) (by kernel_rfl) (by kernel_rfl) (by kernel_rfl) (fun _ fr => by rw [wanted_of fr rfl rfl rfl]; rfl) rfl hzB (s_field rfl rfl (by decide)) ?_
     refine e_take 9 rfl (by kernel_rfl) (by kernel_rfl) (by kernel_rfl) (by kernel_rfl) (fun _ fr => by rw [wanted_of fr rfl rfl rfl]; rfl) rfl hzB (s_ldB rfl (RdPK.cels (RdPK.own' (cs := Ec x.set) meA nd_set)) (Ec_lenM _)) ?_
     refine e_take 10 rfl (by kernel_rfl) (by kernel_rfl) (by kernel_rfl) (by kernel_rfl) (fun _ fr => by rw [wanted_of fr rfl rfl rfl]; rfl) rfl hzB (s_move rfl) ?_
     refine e_take 11 rfl (by kernel_rfl) (by kernel_rfl) (by kernel_rfl) (by kernel_rfl) (fun _ fr => by rw [wanted_of fr rfl rfl rfl]; rfl) rfl hzB (s_move rfl) ?_
     refine e_take 12 rfl (by kernel_rfl) (by kernel_rfl) (by kernel_rfl) (by kernel_rfl) (fun _ fr => by rw [wanted_of fr rfl rfl rfl]; rfl) rfl hzB (s_idx rfl rfl hst (by omega)) ?_
     refine e_take 13 rfl (by kernel_rfl) (by kernel_rfl) (by kernel_rfl) (by kernel_rfl) (fun _ fr => by rw [wanted_of fr rfl rfl rfl]; rfl) rfl hzB (s_ld rfl ((RdK.old0 hw.2.1).ld j 0 hy rfl (by decide) (by omega))) ?_
     refine e_one 14 rfl (by kernel_rfl) ?_
     refine o_yes rfl rfl ?_
     refine o_callP (rHas_fn x.set y.toNat y.toNat_lt) rfl rfl rfl (fun _ _ => trivial) (fun v50 hv50 => ?_)
     subst hv50
     refine o_nil ?_
     refine x_oneS hzB ?_
     refine e_take 15 rfl (by kernel_rfl) (by kernel_rfl) (by kernel_rfl) (by kernel_rfl) (fun _ _ => rfl) rfl hzB (s_pick_t rfl rfl) ?_
     refine e_take 16 rfl (by kernel_rfl) (by kernel_rfl) (by kernel_rfl) (by kernel_rfl) (fun _ _ => rfl) rfl hzB (s_idx rfl rfl hOs (by omega)) ?_
     refine e_one 17 rfl (by kernel_rfl) ?_
     refine o_stS1 (j + 1) _ hO pkA rfl rfl rfl (by rw [hP.len]; omega) (by omega) fun S' hS' => ?_
     refine o_nil ?_
     refine x_oneS hzB ?_
     refine e_done (by kernel_rfl) ?_
     refine x_block ?_
     refine x_then (hK10 _ _ ?_)
     refine c_region ?_
     refine o_step rfl (s_move rfl) ?_
     refine o_step rfl (s_add rfl rfl (by omega)) ?_
     refine o_step rfl (s_assign rfl) ?_
     refine o_nil ?_
     exact x_then (x_inv (j + 1, _, _) ⟨by omega, hP.step hjw ⟨fun h => ⟨bo0_true.1 hf, y, hy, h⟩, fun ⟨_, b, hb, h⟩ => by rw [hy] at hb; cases hb; exact h⟩, hS'⟩ (by first | omega | (dsimp only; omega)) sbA hzB)
    ·
     have hff : bo0 fr j = false := by simpa using hf
     refine e_take 6 rfl (by kernel_rfl) (by kernel_rfl) (by kernel_rfl) (by kernel_rfl) (fun _ _ => rfl) rfl hzB (step_cast (v' := .bool false) (s_ld rfl ((RdK.old0 hw.2.2).ld j 0 (bo0_get (by omega)) rfl (by decide) (by omega))) (by rw [hff])) ?_
     refine e_take 7 rfl (by kernel_rfl) (by kernel_rfl) (by kernel_rfl) (by kernel_rfl) (fun _ _ => rfl) rfl hzB (s_move rfl) ?_
     refine e_skip 8 rfl (by kernel_rfl) (by kernel_rfl) (by kernel_rfl) rfl rfl rfl rfl ?_
     refine e_skip 9 rfl (by kernel_rfl) (by kernel_rfl) (by kernel_rfl) rfl rfl rfl rfl ?_
     refine e_skip 10 rfl (by kernel_rfl) (by kernel_rfl) (by kernel_rfl) rfl rfl rfl rfl ?_
     refine e_skip 11 rfl (by kernel_rfl) (by kernel_rfl) (by kernel_rfl) rfl rfl rfl rfl ?_
     refine e_skip 12 rfl (by kernel_rfl) (by kernel_rfl) (by kernel_rfl) rfl rfl rfl rfl ?_
     refine e_skip 13 rfl (by kernel_rfl) (by kernel_rfl) (by kernel_rfl) rfl rfl rfl rfl ?_
     refine e_one 14 rfl (by kernel_rfl) ?_
     refine o_no rfl rfl rfl rfl ?_
     refine o_nil ?_
     refine x_oneS hzB ?_
     refine e_take 15 rfl (by kernel_rfl) (by kernel_rfl) (by kernel_rfl) (by kernel_rfl) (fun _ _ => rfl) rfl hzB (s_pick_f rfl rfl) ?_
     refine e_take 16 rfl (by kernel_rfl) (by kernel_rfl) (by kernel_rfl) (by kernel_rfl) (fun _ _ => rfl) rfl hzB (s_idx rfl rfl hOs (by omega)) ?_
     refine e_one 17 rfl (by kernel_rfl) ?_
     refine o_stS1 (j + 1) _ hO pkA rfl rfl rfl (by rw [hP.len]; omega) (by omega) fun S' hS' => ?_
     refine o_nil ?_
     refine x_oneS hzB ?_
     refine e_done (by kernel_rfl) ?_
     refine x_block ?_
     refine x_then (hK10 _ _ ?_)
     refine c_region ?_
     refine o_step rfl (s_move rfl) ?_
     refine o_step rfl (s_add rfl rfl (by omega)) ?_
     refine o_step rfl (s_assign rfl) ?_
     refine o_nil ?_
     exact x_then (x_inv (j + 1, _, _) ⟨by omega, hP.step hjw ⟨fun h => (by cases h), fun ⟨h, _⟩ => absurd (bo0_true.2 h) hf⟩, hS'⟩ (by first | omega | (dsimp only; omega)) sbA hzB)
   ·
    obtain rfl : j = w.length := by omega
    refine o_step rfl (step_cast (v' := .bool false) (s_lss rfl rfl) (by rw [decide_eq_false (by omega)])) ?_
    refine o_nil ?_
    refine x_then (hK9 _ _ ?_)
    refine c_false rfl ?_
    refine c_exit ?_
    refine x_then_exit ?_
    refine x_then_exit ?_
    refine x_block_exit ?_
    refine x_block ?_
    refine x_then (hK4 _ _ ?_)
    refine c_seq fun _ hK11 => ?_
    refine c_region ?_
    refine o_step rfl (s_move rfl) ?_
    refine o_step rfl (s_assign rfl) ?_
    refine o_nil ?_
    refine x_then (hK11 _ _ ?_)
    refine c_ret ?_
    refine ?_
    refine x_sub (Sub.refl _) (H' := So) hzB ?_
    exact x_ret rfl (.tmp rfl (.nil)) ((OutP.of hO hP.len (hP.done h1 hS)))
  ·
   refine o_step rfl (step_cast (v' := .bool false) (s_eql rfl rfl) (by rw [decide_eq_false h1])) ?_
   refine o_step rfl (s_assign rfl) ?_
   refine o_nil ?_
   refine x_then (hK6 _ _ ?_)
   refine c_false rfl ?_
   refine c_seq fun _ hK12 => ?_
   refine c_region ?_
   by_cases h2 : x.op = 2
   ·
    refine o_step rfl (step_cast (v' := .bool true) (s_eql rfl rfl) (by rw [decide_eq_true h2])) ?_
    refine o_step rfl (s_assign rfl) ?_
    refine o_nil ?_
    refine x_then (hK12 _ _ ?_)
    refine c_true rfl ?_
    refine c_region ?_
    refine o_step rfl (s_move rfl) ?_
    refine o_step rfl (s_move rfl) ?_
    refine o_step rfl (s_idx rfl rfl hsf (by omega)) ?_
    refine o_step rfl (s_ld rfl ((RdK.old0 hw.2.2).ld 0 0 (bo0_get (by omega)) rfl (by decide) (by omega))) ?_
    refine o_step rfl (s_idx rfl rfl hS20s (by omega)) ?_
    refine o_stS1 0 _ hS20 pkA rfl rfl rfl (by simp) (by omega) fun S' hS' => ?_
    refine o_nil ?_
    refine x_block ?_
    refine x_then (hK4 _ _ ?_)
    refine c_seq fun _ hK13 => ?_
    refine c_region ?_
    refine o_step rfl (s_move rfl) ?_
    refine o_step rfl (s_assign rfl) ?_
    refine o_nil ?_
    refine x_then (hK13 _ _ ?_)
    refine c_ret ?_
    refine ?_
    refine x_sub (Sub.refl _) (H' := S') hzB ?_
    exact x_ret rfl (.tmp rfl (.nil)) ((OutP.of hS' (by simp) (.bol h2 hS)))
   ·
    refine o_step rfl (step_cast (v' := .bool false) (s_eql rfl rfl) (by rw [decide_eq_false h2])) ?_
    refine o_step rfl (s_assign rfl) ?_
    refine o_nil ?_
    refine x_then (hK12 _ _ ?_)
    refine c_false rfl ?_
    refine c_seq fun _ hK14 => ?_
    refine c_region ?_
    by_cases h3 : x.op = 3
    ·
     refine o_step rfl (step_cast (v' := .bool true) (s_eql rfl rfl) (by rw [decide_eq_true h3])) ?_
     refine o_step rfl (s_assign rfl) ?_
     refine o_nil ?_
     refine x_then (hK14 _ _ ?_)
     refine c_true rfl ?_
     refine c_region ?_
     refine o_step rfl (s_move rfl) ?_
     refine o_step rfl (s_move rfl) ?_
     refine o_step rfl (s_len rfl) ?_
     refine o_step rfl (s_move rfl) ?_
     refine o_step rfl (s_move rfl) ?_
     refine o_step rfl (s_len rfl) ?_
     refine o_step rfl (s_idx rfl rfl hsf (by omega)) ?_
     refine o_step rfl (s_ld rfl ((RdK.old0 hw.2.2).ld w.length 0 (bo0_get (by omega)) rfl (by decide) (by omega))) ?_
     refine o_step rfl (s_idx rfl rfl hS20s (by omega)) ?_
     refine o_stS1 w.length _ hS20 pkA rfl rfl rfl (by simp) (by omega) fun S' hS' => ?_
     refine o_nil ?_
     refine x_block ?_
     refine x_then (hK4 _ _ ?_)
     refine c_seq fun _ hK15 => ?_
     refine c_region ?_
     refine o_step rfl (s_move rfl) ?_
     refine o_step rfl (s_assign rfl) ?_
     refine o_nil ?_
     refine x_then (hK15 _ _ ?_)
     refine c_ret ?_
     refine ?_
     refine x_sub (Sub.refl _) (H' := S') hzB ?_
     exact x_ret rfl (.tmp rfl (.nil)) ((OutP.of hS' (by simp) (.eol h3 hS)))
    ·
     refine o_step rfl (step_cast (v' := .bool false) (s_eql rfl rfl) (by rw [decide_eq_false h3])) ?_
     refine o_step rfl (s_assign rfl) ?_
     refine o_nil ?_
     refine x_then (hK14 _ _ ?_)
     refine c_false rfl ?_
     refine c_seq fun _ hK16 => ?_
     refine c_region ?_
     by_cases h4 : x.op = 4
     ·
      refine o_step rfl (step_cast (v' := .bool true) (s_eql rfl rfl) (by rw [decide_eq_true h4])) ?_
      refine o_step rfl (s_assign rfl) ?_
      refine o_nil ?_
      refine x_then (hK16 _ _ ?_)
      refine c_true rfl ?_
      refine c_seq fun _ hK17 => ?_
      refine c_region ?_
      refine o_step rfl (s_move rfl) ?_
      refine o_step rfl (s_assign rfl) ?_
      refine o_nil ?_
      refine x_then (hK17 _ _ ?_)
      refine c_seq fun _ hK18 => ?_
      refine c_region ?_
      refine o_step rfl (s_move rfl) ?_
      refine o_step rfl (s_add rfl rfl (by omega)) ?_
      refine o_step rfl (s_assign rfl) ?_
      refine o_nil ?_
      refine x_then (hK18 _ _ ?_)
      refine c_seq fun _ hK19 => ?_
      refine c_region ?_
      refine o_step rfl (s_assign rfl) ?_
      refine o_nil ?_
      refine x_then (hK19 _ _ ?_)
      refine c_block ?_
      refine c_loop6 (fun (k : Nat) (g : F) (kp : Nat) (q : Sl Bool) (Sd : Hp) (T : Nat → Prop) => k + g.num = ks.num ∧ Part re g kp (i + 1 + ks.size) ∧ g.size ≤ ks.size ∧ IsS q.xs w.length T ∧ (∀ p, T p → p ≤ w.length) ∧ (∀ p, img (der w g false) T p ↔ img (der w ks false) S p) ∧ RdC (.slice fa fr.length fc) fr (.slice q.a q.xs.length q.c) q.xs Sd) (fun (k : Nat) (g : F) (kp : Nat) (q : Sl Bool) (Sd : Hp) (T : Nat → Prop) => [(13, .int .i64 k), (12, .int .i64 kp), (9, .slice q.a q.xs.length q.c)]) [(0, _), (2, _), (8, _), (10, _)] (fun (k : Nat) (g : F) (kp : Nat) (q : Sl Bool) (Sd : Hp) (T : Nat → Prop) => (b10, .cells (En x).toArray 70 (0, 0)) :: Sd) (fun (k : Nat) (g : F) (kp : Nat) (q : Sl Bool) (Sd : Hp) (T : Nat → Prop) => ks.num - k) 0 ks (i + 1) ⟨fa, fc, fr⟩ [] S ⟨by omega, hpk, Nat.le_refl _, hS, hSb, fun _ => Iff.rfl, .self⟩ sbA sbA hzB ?_
      rintro k g kp q Sd T ⟨hkg, hpg, hgs, hi, hTb, hT, hq⟩
      refine c_seq fun _ hK20 => ?_
      refine c_seq fun _ hK21 => ?_
      refine c_region ?_
      refine o_step rfl (s_move rfl) ?_
      refine o_step rfl (s_field rfl rfl (by decide)) ?_
      refine o_step rfl (s_ld rfl (.own meA rfl)) ?_
      by_cases hk : (k : Int) < x.kids
      ·
       obtain ⟨y, ks1, r2, rfl⟩ : ∃ y ks1 r2, g = F.nd y ks1 r2 := by cases g with | nil => simp [F.num] at hkg; omega | nd y a b => exact ⟨y, a, b, rfl⟩
       obtain ⟨hy, hpy, hpt⟩ := hpg.head
       have hsz : ks1.size < ks.size := by simp only [F.size] at hgs; omega
       simp only [F.num] at hkg
       simp only [F.size] at hgs
       refine o_step rfl (step_cast (v' := .bool true) (s_lss rfl rfl) (by rw [decide_eq_true (by omega)])) ?_
       refine o_nil ?_
       refine x_then (hK21 _ _ ?_)
       refine c_true rfl ?_
       refine c_skip ?_
       refine x_then (hK20 _ _ ?_)
       refine c_seq fun _ hK22 => ?_
       refine c_block ?_
       refine c_seq fun _ hK23 => ?_
       refine c_region ?_
       refine o_step rfl (s_move rfl) ?_
       refine o_step rfl (s_move rfl) ?_
       refine o_step rfl (s_move rfl) ?_
       refine o_step rfl (s_move rfl) ?_
       refine o_call (ih y ks1 hsz ra rc re ta tc kp _ q.a q.c q.xs T hre hr8 hwl hpg.one hi hTb) rfl rfl rfl (by exact .nil) (fun w st => ⟨(RdK.old0 hw.1).out w st, (RdK.old0 hw.2.1).out w st, (hq.rdk hw.2.2 hiA).out w st⟩) (fun v86 S86 ⟨a86, c86, l86, hv86, hi86, hr86⟩ => ?_)
       subst hv86
       refine o_step rfl (s_assign rfl) ?_
       refine o_nil ?_
       refine x_then (hK23 _ _ ?_)
       refine c_region ?_
       refine o_step rfl (s_move rfl) ?_
       refine o_step rfl (s_move rfl) ?_
       refine o_callP (behind_fn ra rc re y ks1 kp _ hpg.one) rfl rfl rfl (fun w st => (RdK.old0 hw.1).out w st) (fun v89 hv89 => ?_)
       subst hv89
       refine o_step rfl (s_assign rfl) ?_
       refine o_nil ?_
       refine x_block ?_
       refine x_then (hK22 _ _ ?_)
       refine c_region ?_
       refine o_step rfl (s_move rfl) ?_
       refine o_step rfl (s_add rfl rfl (by omega)) ?_
       refine o_step rfl (s_assign rfl) ?_
       refine o_nil ?_
       exact x_then (x_inv (k + 1, r2, kp + 1 + ks1.size, ⟨a86, c86, l86⟩, S86 ++ Sd, (img (der1 w y ks1) T)) ⟨by dsimp only; omega, hpt, by dsimp only; omega, hi86, img_inn hTb, fun p => img_cat.trans (hT p), hq.trans hr86⟩ (by first | omega | (dsimp only; omega)) sbA hzB)
      ·
       obtain rfl : g = F.nil := F.num_nil (by omega)
       refine o_step rfl (step_cast (v' := .bool false) (s_lss rfl rfl) (by rw [decide_eq_false (by omega)])) ?_
       refine o_nil ?_
       refine x_then (hK21 _ _ ?_)
       refine c_false rfl ?_
       refine c_exit ?_
       refine x_then_exit ?_
       refine x_then_exit ?_
       refine x_block_exit ?_
       refine x_block ?_
       refine x_then (hK4 _ _ ?_)
       refine c_seq fun _ hK24 => ?_
       refine c_region ?_
       refine o_step rfl (s_move rfl) ?_
       refine o_step rfl (s_assign rfl) ?_
       refine o_nil ?_
       refine x_then (hK24 _ _ ?_)
       refine c_ret ?_
       refine ?_
       refine x_sub (Sub.refl _) (H' := Sd) hzB ?_
       exact x_ret rfl (.tmp rfl (.nil)) (⟨_, _, _, rfl, hi.iff fun p _ => img_nil.symm.trans ((hT p).trans (img_else h1 h2 h3 (by omega) (by omega)).symm), hq⟩)
     ·
      refine o_step rfl (step_cast (v' := .bool false) (s_eql rfl rfl) (by rw [decide_eq_false h4])) ?_
      refine o_step rfl (s_assign rfl) ?_
      refine o_nil ?_
      refine x_then (hK16 _ _ ?_)
      refine c_false rfl ?_
      refine c_seq fun _ hK25 => ?_
      refine c_region ?_
      by_cases h5 : x.op = 5
      ·
       refine o_step rfl (step_cast (v' := .bool true) (s_eql rfl rfl) (by rw [decide_eq_true h5])) ?_
       refine o_step rfl (s_assign rfl) ?_
       refine o_nil ?_
       refine x_then (hK25 _ _ ?_)
       refine c_true rfl ?_
       refine c_seq fun _ hK26 => ?_
       refine c_region ?_
       refine o_step rfl (s_move rfl) ?_
       refine o_step rfl (s_add rfl rfl (by omega)) ?_
       refine o_step rfl (s_assign rfl) ?_
       refine o_nil ?_
       refine x_then (hK26 _ _ ?_)
       refine c_seq fun _ hK27 => ?_
       refine c_region ?_
       refine o_step rfl (s_assign rfl) ?_
       refine o_nil ?_
       refine x_then (hK27 _ _ ?_)
       refine c_block ?_
       refine c_loop6 (fun (k : Nat) (g : F) (kp : Nat) (q : Sl Bool) (Sd : Hp) (T : Nat → Prop) => k + g.num = ks.num ∧ Part re g kp (i + 1 + ks.size) ∧ g.size ≤ ks.size ∧ IsS q.xs w.length T ∧ (∀ p, (T p ∨ img (der w g true) S p) ↔ img (der w ks true) S p) ∧ RdS Ebo (.slice q.a q.xs.length q.c) q.xs Sd) (fun (k : Nat) (g : F) (kp : Nat) (q : Sl Bool) (Sd : Hp) (T : Nat → Prop) => [(15, .int .i64 k), (14, .int .i64 kp), (9, .slice q.a q.xs.length q.c)]) [(0, _), (2, _), (3, _), (8, _), (10, _)] (fun (k : Nat) (g : F) (kp : Nat) (q : Sl Bool) (Sd : Hp) (T : Nat → Prop) => (b10, .cells (En x).toArray 70 (0, 0)) :: Sd) (fun (k : Nat) (g : F) (kp : Nat) (q : Sl Bool) (Sd : Hp) (T : Nat → Prop) => ks.num - k) 0 ks (i + 1) ⟨some ⟨b20, 0, none⟩, w.length + 1, List.replicate (w.length + 1) false⟩ S20 (fun _ => False) ⟨by omega, hpk, Nat.le_refl _, .none, fun _ => by simp, by dsimp only; rw [List.length_replicate]; exact hS20.rds⟩ (by exact Sub.cons rfl (Sub.cons rfl (Sub.cons' rfl (by dsimp only; rw [List.length_replicate]) sbA))) sbA hzB ?_
       rintro k g kp q Sd T ⟨hkg, hpg, hgs, hi, hT, hq⟩
       have hlq := hi.len
       refine c_seq fun _ hK28 => ?_
       refine c_seq fun _ hK29 => ?_
       refine c_region ?_
       refine o_step rfl (s_move rfl) ?_
       refine o_step rfl (s_field rfl rfl (by decide)) ?_
       refine o_step rfl (s_ld rfl (.own meA rfl)) ?_
       by_cases hk : (k : Int) < x.kids
       ·
        obtain ⟨y, ks1, r2, rfl⟩ : ∃ y ks1 r2, g = F.nd y ks1 r2 := by cases g with | nil => simp [F.num] at hkg; omega | nd y a b => exact ⟨y, a, b, rfl⟩
        obtain ⟨hy, hpy, hpt⟩ := hpg.head
        have hsz : ks1.size < ks.size := by simp only [F.size] at hgs; omega
        simp only [F.num] at hkg
        simp only [F.size] at hgs
        refine o_step rfl (step_cast (v' := .bool true) (s_lss rfl rfl) (by rw [decide_eq_true (by omega)])) ?_
        refine o_nil ?_
        refine x_then (hK29 _ _ ?_)
        refine c_true rfl ?_
        refine c_skip ?_
        refine x_then (hK28 _ _ ?_)
        refine c_seq fun _ hK30 => ?_
        refine c_block ?_
        refine c_seq fun _ hK31 => ?_
        refine c_region ?_
        refine o_step rfl (s_move rfl) ?_
        refine o_step rfl (s_move rfl) ?_
        refine o_step rfl (s_move rfl) ?_
        refine o_step rfl (s_move rfl) ?_
        refine o_call (ih y ks1 hsz ra rc re ta tc kp _ fa fc fr S hre hr8 hwl hpg.one hS hSb) rfl rfl rfl (by exact .nil) (fun w st => ⟨(RdK.old0 hw.1).out w st, (RdK.old0 hw.2.1).out w st, (RdK.old0 hw.2.2).out w st⟩) (fun v104 S104 ⟨a104, c104, l104, hv104, hi104, hr104⟩ => ?_)
        subst hv104
        have hr104 : RdC (.slice fa fr.length fc) fr (.slice a104 l104.length c104) l104 S104 := hr104
        have hln := hi104.len
        refine o_step rfl (s_assign rfl) ?_
        refine o_nil ?_
        refine x_then (hK31 _ _ ?_)
        refine c_seq fun _ hK32 => ?_
        refine c_region ?_
        refine o_step rfl (s_move rfl) ?_
        refine o_step rfl (s_move rfl) ?_
        refine o_call (both_fn q.a a104 q.c c104 q.xs l104 (by omega) (by omega)) rfl rfl rfl (by exact .nil) (fun w st => ⟨(hq.rdk hiA).out w st, (hr104.rdk hw.2.2 hiA).out w st⟩) (fun v108 S108 ⟨a108, c108, hv108, hO108⟩ => ?_)
        subst hv108
        refine o_step rfl (s_move rfl) ?_
        refine o_step rfl (s_extract rfl rfl) ?_
        refine o_step rfl (s_extract rfl rfl) ?_
        refine o_step rfl (s_assign rfl) ?_
        refine o_nil ?_
        refine x_then (hK32 _ _ ?_)
        refine c_region ?_
        refine o_step rfl (s_move rfl) ?_
        refine o_step rfl (s_move rfl) ?_
        refine o_callP (behind_fn ra rc re y ks1 kp _ hpg.one) rfl rfl rfl (fun w st => (RdK.old0 hw.1).out w st) (fun v113 hv113 => ?_)
        subst hv113
        refine o_step rfl (s_assign rfl) ?_
        refine o_nil ?_
        refine x_block ?_
        refine x_then (hK30 _ _ ?_)
        refine c_region ?_
        refine o_step rfl (s_move rfl) ?_
        refine o_step rfl (s_add rfl rfl (by omega)) ?_
        refine o_step rfl (s_assign rfl) ?_
        refine o_nil ?_
        exact x_then (x_inv (k + 1, r2, kp + 1 + ks1.size, ⟨a108, c108, orL q.xs l104⟩, S108, (fun p => T p ∨ img (der1 w y ks1) S p)) ⟨by dsimp only; omega, hpt, by dsimp only; omega, hi.or hi104, fun p => by rw [← hT p, img_alt, or_assoc], hO108.rds⟩ (by first | omega | (dsimp only; omega)) sbA hzB)
       ·
        obtain rfl : g = F.nil := F.num_nil (by omega)
        refine o_step rfl (step_cast (v' := .bool false) (s_lss rfl rfl) (by rw [decide_eq_false (by omega)])) ?_
        refine o_nil ?_
        refine x_then (hK29 _ _ ?_)
        refine c_false rfl ?_
        refine c_exit ?_
        refine x_then_exit ?_
        refine x_then_exit ?_
        refine x_block_exit ?_
        refine x_block ?_
        refine x_then (hK4 _ _ ?_)
        refine c_seq fun _ hK33 => ?_
        refine c_region ?_
        refine o_step rfl (s_move rfl) ?_
        refine o_step rfl (s_assign rfl) ?_
        refine o_nil ?_
        refine x_then (hK33 _ _ ?_)
        refine c_ret ?_
        refine ?_
        refine x_sub (Sub.refl _) (H' := Sd) hzB ?_
        exact x_ret rfl (.tmp rfl (.nil)) (⟨_, _, _, rfl, hi.iff fun p _ => by rw [img_alt5 h5, ← hT p]; exact ⟨.inl, fun h => h.elim id fun h => absurd h img_nil'⟩, RdC.of hq⟩)
      ·
       refine o_step rfl (step_cast (v' := .bool false) (s_eql rfl rfl) (by rw [decide_eq_false h5])) ?_
       refine o_step rfl (s_assign rfl) ?_
       refine o_nil ?_
       refine x_then (hK25 _ _ ?_)
       refine c_false rfl ?_
       refine c_seq fun _ hK34 => ?_
       refine c_region ?_
       by_cases h7 : x.op = 7
       ·
        refine o_step rfl (step_cast (v' := .bool true) (s_eql rfl rfl) (by rw [decide_eq_true h7])) ?_
        refine o_step rfl (s_assign rfl) ?_
        refine o_nil ?_
        refine x_then (hK34 _ _ ?_)
        refine c_true rfl ?_
        refine c_region ?_
        refine o_step rfl (s_move rfl) ?_
        refine o_step rfl (s_move rfl) ?_
        refine o_step rfl (s_add rfl rfl (by omega)) ?_
        refine o_step rfl (s_move rfl) ?_
        refine o_step rfl (s_move rfl) ?_
        obtain ⟨y, js, rfl⟩ := grp_kid hp.wf h7
        refine o_call (ih y js (by simp only [F.size]; omega) ra rc re ta tc (i + 1) _ fa fc fr S hre hr8 hwl hpk hS hSb) rfl rfl rfl (by exact .nil) (fun w st => ⟨(RdK.old0 hw.1).out w st, (RdK.old0 hw.2.1).out w st, (RdK.old0 hw.2.2).out w st⟩) (fun v121 S121 ⟨a121, c121, l121, hv121, hi121, hr121⟩ => ?_)
        subst hv121
        refine o_step rfl (s_assign rfl) ?_
        refine o_nil ?_
        refine x_block ?_
        refine x_then (hK4 _ _ ?_)
        refine c_seq fun _ hK35 => ?_
        refine c_region ?_
        refine o_step rfl (s_move rfl) ?_
        refine o_step rfl (s_assign rfl) ?_
        refine o_nil ?_
        refine x_then (hK35 _ _ ?_)
        refine c_ret ?_
        refine ?_
        refine x_sub (Sub.refl _) (H' := S121) hzB ?_
        exact x_ret rfl (.tmp rfl (.nil)) (⟨_, _, _, rfl, hi121.iff fun p _ => (img_else h1 h2 h3 h5 (by omega)).symm, hr121⟩)
       ·
        refine o_step rfl (step_cast (v' := .bool false) (s_eql rfl rfl) (by rw [decide_eq_false h7])) ?_
        refine o_step rfl (s_assign rfl) ?_
        refine o_nil ?_
        refine x_then (hK34 _ _ ?_)
        refine c_false rfl ?_
        refine c_seq fun _ hK36 => ?_
        refine c_region ?_
        by_cases h6 : x.op = 6
        ·
         refine o_step rfl (step_cast (v' := .bool true) (s_eql rfl rfl) (by rw [decide_eq_true h6])) ?_
         refine o_step rfl (s_assign rfl) ?_
         refine o_nil ?_
         refine x_then (hK36 _ _ ?_)
         refine c_true rfl ?_
         refine c_region ?_
         refine o_step rfl (s_move rfl) ?_
         refine o_step rfl (s_move rfl) ?_
         refine o_step rfl (s_move rfl) ?_
         refine o_step rfl (s_move rfl) ?_
         obtain ⟨y, js, rfl⟩ := rep_kid hp.wf h6
         refine o_call (rounds_step w x y js (ih y js (by simp only [F.size]; omega)) ra rc re ta tc i i1 fa fc fr S hre hr8 hwl hp h6 hS hSb) rfl rfl rfl (by exact .nil) (fun w st => ⟨(RdK.old0 hw.1).out w st, (RdK.old0 hw.2.1).out w st, (RdK.old0 hw.2.2).out w st⟩) (fun v128 S128 ⟨a128, c128, l128, hv128, hi128, hr128⟩ => ?_)
         subst hv128
         refine o_step rfl (s_assign rfl) ?_
         refine o_nil ?_
         refine x_block ?_
         refine x_then (hK4 _ _ ?_)
         refine c_seq fun _ hK37 => ?_
         refine c_region ?_
         refine o_step rfl (s_move rfl) ?_
         refine o_step rfl (s_assign rfl) ?_
         refine o_nil ?_
         refine x_then (hK37 _ _ ?_)
         refine c_ret ?_
         refine ?_
         refine x_sub (Sub.refl _) (H' := S128) hzB ?_
         exact x_ret rfl (.tmp rfl (.nil)) (⟨_, _, _, rfl, hi128.iff fun p _ => (img_rep6 h6).symm, hr128⟩)
        ·
         refine o_step rfl (step_cast (v' := .bool false) (s_eql rfl rfl) (by rw [decide_eq_false h6])) ?_
         refine o_step rfl (s_assign rfl) ?_
         refine o_nil ?_
         refine x_then (hK36 _ _ ?_)
         refine c_false rfl ?_
         refine c_skip ?_
         refine x_block ?_
         refine x_then (hK4 _ _ ?_)
         refine c_seq fun _ hK38 => ?_
         refine c_region ?_
         refine o_step rfl (s_move rfl) ?_
         refine o_step rfl (s_assign rfl) ?_
         refine o_nil ?_
         refine x_then (hK38 _ _ ?_)
         refine c_ret ?_
         refine ?_
         exfalso; omega

theorem over_fn (w : List UInt8) : ∀ (n : Nat) (x : Nd) (ks : F), ks.size < n → OverC Tryd.prog 64 w x ks := by
  intro n
  induction n with
  | zero => intro x ks h; omega
  | succ n ihn => intro x ks h ra rc re ta tc i i1 fa fc fr S hre hr8 hwl hp hS hSb; exact over_step w x ks (fun y js hj => ihn y js (by omega)) ra rc re ta tc i i1 fa fc fr S hre hr8 hwl hp hS hSb
end Go.Proofs.YtiggliigookieaaDoor

/- Where runs lead at a place: the search. Conditions: none. -/
namespace Go.HL.Kl.Mc
open Go Go.HL Go.HL.Kl
/-- where one step without a byte leads -/
def succs (t : In) (n p i : Nat) : List Nat :=
  if t.op = 2 then (if p = 0 then [i + 1] else []) else if t.op = 3 then (if p = n then [i + 1] else [])
  else if t.op = 4 then [t.x.toNat] else if t.op = 5 then [t.x.toNat, t.y.toNat] else []
/-- the search so far -/
structure Srch (m : List In) (n p from_ : Nat) (s0 sn : List Bool) (todo : List Nat) : Prop where
  len : sn.length = m.length
  a : ∀ i : Nat, s0[i]? = some true → sn[i]? = some true
  b : ∀ i : Nat, sn[i]? = some true → s0[i]? = some true ∨ EpsS m n p from_ i
  c : ∀ t ∈ todo, EpsS m n p from_ t ∧ t < m.length
  d : ∀ i j : Nat, sn[i]? = some true → Eps m n p i j → sn[j]? = some true ∨ j ∈ todo
  e : sn[from_]? = some true ∨ from_ ∈ todo
/-- how many are not yet seen -/
def unseen (l : List Bool) : Nat := l.countP (!·)
end Go.HL.Kl.Mc

/- Where runs lead, place by place. Conditions: none. -/
namespace Go.HL.Kl.Mc
open Go Go.HL Go.HL.Kl
/-- the steps of the machine at which a place is begun -/
def Begn (m : List In) (w : List UInt8) (f p j : Nat) : Prop := (p = f ∧ j = 0) ∨ (f < p ∧ ∃ i, j = i + 1 ∧ Run m w (0, f) (i, p - 1) ∧ Eat m w i (p - 1))
end Go.HL.Kl.Mc

/- What Ends answers. Conditions: none. -/
namespace Go.HL.Kl.Mc
open Go Go.HL Go.HL.Kl
/-- the answer -/
def EndsP (m : List In) (w : List UInt8) (f : Int) (out : List Bool) : Prop := out.length = w.length + 1 ∧ ∀ t : Nat, out[t]? = some true ↔ MOk m ∧ ∃ g : Nat, f = g ∧ g ≤ w.length ∧ Hit m w g t
/-- what reach has seen of the first k begun steps -/
def SeenP (m : List In) (w : List UInt8) (p : Nat) (q : List Nat) (k : Nat) (sn : List Bool) : Prop :=
  sn.length = m.length ∧ (∀ i : Nat, sn[i]? = some true ↔ ∃ t j : Nat, t < k ∧ q[t]? = some j ∧ EpsS m w.length p j i) ∧ ∀ i j : Nat, sn[i]? = some true → Eps m w.length p i j → sn[j]? = some true
/-- the second pass over the first k steps -/
structure PassP (m : List In) (w : List UInt8) (p : Nat) (sn out : List Bool) (k : Nat) (o2 : List Bool) (q2 : List Nat) : Prop where
  len : o2.length = out.length
  st : ∀ j, j ∈ q2 ↔ ∃ i, i < k ∧ j = i + 1 ∧ sn[i]? = some true ∧ Eat m w i p
  out : ∀ t : Nat, o2[t]? = some true ↔ out[t]? = some true ∨ (t = p ∧ ∃ i u, i < k ∧ sn[i]? = some true ∧ m[i]? = some u ∧ u.op = 6)
  le : q2.length ≤ k
/-- the answer of Ends: memory of its own -/
def EndsC (m : List In) (w : List UInt8) (f : Int) (v : Value) (S : Hp) : Prop := ∃ (a : Option Addr) (c : Nat) (out : List Bool), v = .slice a (w.length + 1) c ∧ OwnS Ebo 1 4 v out S ∧ EndsP m w f out
end Go.HL.Kl.Mc

/- Spare instructions; the node of one byte. Conditions: none. -/
namespace Go.HL.Kl.Mc
open Go Go.HL Go.HL.Kl
def spI (i : Nat) : In := ⟨0, 0, ((1048576 * 9 + i + 1 : Nat) : Int), -7⟩
/-- the node of one byte -/
def letN (b : UInt8) : Nd := ⟨1, bit b.toNat, 0, 0, 0, 0⟩
theorem En_one : En ⟨1, 0, 0, 0, 0, 0⟩ = [.int .i8 1, .int .u64 0, .int .u64 0, .int .u64 0, .int .u64 0, .int .i64 0, .int .i64 0, .int .i64 0, .int .i64 0] := by
  show _ :: (Ec 0#256 ++ _) = _
  rw [Ec_zero]; rfl
theorem letN_set (b : UInt8) : (En (⟨1, 0, 0, 0, 0, 0⟩ : Nd)).set (0 + 1 + (((b.toNat / 64 : Nat) : Int)).toNat * 1) (Ew (1#64 <<< (b.toNat % 64))) = En (letN b) := by
  have hb := b.toNat_lt
  have h := with_eq (0#256) (x := b.toNat) hb
  have h0 : ∀ i, wd 0#256 i = 0#64 := fun i => by simp [wd]
  rw [h0, BitVec.zero_or, BitVec.zero_or] at h
  show (_ :: (Ec 0#256 ++ _)).set _ _ = _ :: (Ec (bit b.toNat) ++ _)
  rw [← h, ← Ec_set _ _ (by omega), Int.toNat_natCast, show 0 + 1 + b.toNat / 64 * 1 = b.toNat / 64 + 1 by omega, List.set_cons_succ, List.set_append_left _ _ (by show b.toNat / 64 < 4; omega)]; rfl
end Go.HL.Kl.Mc

/- The known run: the machine of a* over aab. Conditions: none. -/
namespace Go.HL.Kl.Mc
open Go Go.HL Go.HL.Kl
def starN : Nd := ⟨6, 0, 0, 0, -1, 1⟩
def reW : List Nd := [starN, letN 97]
def ksW : F := .nd (letN 97) .nil .nil
def mW : List In := mach (.nd starN ksW .nil)
theorem let_ok : ndOk (letN 97) = true := by decide +kernel
theorem wfW : (F.nd starN ksW .nil).wf := ⟨by decide +kernel, rfl, ⟨let_ok, rfl, trivial, trivial⟩, trivial⟩
theorem Shp.uniq {re : List Nd} {x y : Nd} {ks js : F} (h : Shp re x ks) (h' : Shp re y js) : x = y ∧ ks = js := by
  have := flat_inj (.nd x ks .nil) (.nd y js .nil) [] [] h.wf h'.wf rfl (by simp only [F.flat, List.append_nil]; rw [← h.flat, ← h'.flat])
  simpa using this.1
def wW : List UInt8 := [97, 97, 98]
theorem En_star : En starN = [.int .i8 6, .int .u64 0, .int .u64 0, .int .u64 0, .int .u64 0, .int .i64 0, .int .i64 0, .int .i64 (-1), .int .i64 1] := by
  show _ :: (Ec 0#256 ++ _) = _
  rw [Ec_zero]; rfl
attribute [irreducible] mW
end Go.HL.Kl.Mc

/- Runs and derivations lead to the same places. Conditions: none. -/
namespace Go.HL.Kl.Mc
open Go Go.HL Go.HL.Kl
theorem no_refs {re : List Nd} (hs : shapedB re = true) (hr : refsB re = false) : ∀ x ∈ re, ¬ x.op = 8 := fun x hx h8 => by rw [refs_yes hs hx h8] at hr; cases hr
end Go.HL.Kl.Mc

/- Maps from structs of four numbers to small numbers. Conditions: none. -/
namespace Go.HL
open Go
structure Ky where
  a : Int
  b : Int
  c : Int
  d : Int
  deriving DecidableEq
def Ek (k : Ky) : List Value := [.int .i64 k.a, .int .i64 k.b, .int .i64 k.c, .int .i64 k.d]
instance : Enc Ek 4 := ⟨fun _ => rfl, fun x v hv => by
  simp only [Ek, List.mem_cons, List.not_mem_nil, or_false] at hv
  rcases hv with rfl | rfl | rfl | rfl <;> rfl⟩
structure Me where
  k : Ky
  v : Int
  born : Nat
def Me.enc (e : Me) : MapEntry := { key := .agg (Ek e.k).toArray, val := .int .i8 e.v, born := e.born }
def mpO (es : List Me) (c : Nat) : Obj := .map (es.map Me.enc).toArray c
def getK (es : List Me) (k : Ky) : Int := ((es.find? (fun e => decide (k = e.k))).map (·.v)).getD 0
def putAt (v : Int) : List Me → Ky → List Me
  | [], _ => []
  | e :: es, k => if k = e.k then { e with v := v } :: es else e :: putAt v es k
theorem getK_nil (k : Ky) : getK [] k = 0 := rfl
theorem getK_cons (e : Me) (es : List Me) (k : Ky) : getK (e :: es) k = if k = e.k then e.v else getK es k := by
  unfold getK
  by_cases h : k = e.k <;> simp [List.find?_cons, h]
theorem getK_push {es : List Me} {k : Ky} (hn : ∀ e ∈ es, k ≠ e.k) (v : Int) (n : Nat) (j : Ky) : getK (es ++ [⟨k, v, n⟩]) j = if j = k then v else getK es j := by
  induction es with
  | nil => simp [getK_cons, getK_nil]
  | cons e es ih =>
    rw [List.cons_append, getK_cons, getK_cons, ih (fun e' h => hn e' (List.mem_cons_of_mem _ h))]
    by_cases h : j = k
    · subst h; rw [if_neg (hn e List.mem_cons_self)]; simp
    · simp [h]
theorem getK_put {es : List Me} {k : Ky} (h : ∃ e ∈ es, k = e.k) (v : Int) (j : Ky) : getK (putAt v es k) j = if j = k then v else getK es j := by
  induction es with
  | nil => obtain ⟨e, he, _⟩ := h; cases he
  | cons e es ih =>
    unfold putAt
    by_cases hk : k = e.k
    · rw [if_pos hk, getK_cons, getK_cons]
      by_cases hj : j = k
      · simp [hj, hk]
      · rw [if_neg (by simp; rw [← hk]; exact hj), if_neg hj, if_neg (by rw [← hk]; exact hj)]
    · rw [if_neg hk, getK_cons, getK_cons, ih (by
        obtain ⟨e', he, hk'⟩ := h
        rcases List.mem_cons.1 he with rfl | he
        · exact absurd hk' hk
        · exact ⟨e', he, hk'⟩)]
      by_cases hj : j = k
      · subst hj; rw [if_neg hk]; simp
      · simp [hj]
section
variable {P : Program} {κ : Cx} {Q : Pst} {L : Loc} {H H' : Hp} {ops : Array Oper} {rest : List Oper} {ty t t' : TypeId} {d : Nat} {pos : String} {af : Array Edge} {x y z : Operand}
theorem ky_fq {e : Nat} [TU P e (.int .i64)] [TG P e true] (w : World) (p q : Ky) : FQ P w 9998 (Ek p).toArray (Ek q).toArray [(e, 0), (e, 1), (e, 2), (e, 3)] (decide (p = q)) := by
  have h : FQ P w 9998 (Ek p).toArray (Ek q).toArray [(e, 0), (e, 1), (e, 2), (e, 3)] _ :=
    .int (j := .i64) (p := p.a) (q := q.a) rfl rfl (.int (j := .i64) (p := p.b) (q := q.b) rfl rfl (.int (j := .i64) (p := p.c) (q := q.c) rfl rfl (.int (j := .i64) (p := p.d) (q := q.d) rfl rfl .nil)))
  have e : (p.a == q.a && (p.b == q.b && (p.c == q.c && (p.d == q.d && true)))) = decide (p = q) := by
    cases p; cases q
    simp only [Ky.mk.injEq, Bool.and_true]
    rw [Bool.eq_iff_iff]
    simp
  rw [← e]; exact h
theorem ky_eq {e : Nat} [TU P e (.int .i64)] [TG P e true] [TQ P t [(e, 0), (e, 1), (e, 2), (e, 3)]] (w : World) (p q : Ky) : (Op.equal t (.agg (Ek p).toArray) (.agg (Ek q).toArray)).run P w = .ok (decide (p = q)) w := by
  have h : ∀ w, (Op.equalIn (9998 + 2) t (.agg (Ek p).toArray) (.agg (Ek q).toArray)).run P w = .ok (decide (p = q)) w := fun w => re_struct (ky_fq w p q)
  exact h w
theorem ky_struct {l : List (Nat × Nat)} [tq : TQ P t l] : ∃ fs : Array Field, P.underlying t = some (.struct fs) ∧ fs.toList.map (fun f => (f.type, f.offset)) = l := by
  have hq := tq.out
  cases hu : P.underlying t with
  | none => simp [hu] at hq
  | some D =>
    rw [hu] at hq
    cases D
    case struct fs =>
      simp only [Option.bind_some, fieldsOf] at hq
      split at hq
      case isFalse => cases hq
      case isTrue hc =>
        simp only [Option.some.injEq] at hq
        exact ⟨fs, rfl, hq⟩
    all_goals simp [fieldsOf] at hq
theorem forIn_ok {β : Type} {f : β → PUnit → Sem (ForInStep PUnit)} {w : World} : ∀ {l : List β}, (∀ x ∈ l, (f x ⟨⟩).run P w = .ok (.yield ⟨⟩) w) → (forIn (m := Sem) l PUnit.unit f).run P w = .ok ⟨⟩ w := by
  intro l
  induction l with
  | nil => intro _; simp
  | cons x l ih =>
    intro h
    rw [List.forIn_cons, Sem.run_bind, h x List.mem_cons_self, Result.andThen_ok]
    exact ih fun y hy => h y (List.mem_cons_of_mem _ hy)
theorem checkInt {e n : Nat} {b : Bool} {v : Value} [TU P e (.int .i64)] (w : World) : (Instr.checkKey b (n + 1) e v).run P w = .ok () w := by
  unfold Instr.checkKey
  rw [Sem.run_bind, run_u, Result.andThen_ok]
  cases v <;> simp
theorem ky_check {e : Nat} {b : Bool} [TU P e (.int .i64)] [TG P e true] [TQ P t [(e, 0), (e, 1), (e, 2), (e, 3)]] (w : World) (k : Ky) : (Instr.checkKey b 10000 t (.agg (Ek k).toArray)).run P w = .ok () w := by
  obtain ⟨fs, hu, hl⟩ := ky_struct (P := P) (t := t) (l := [(e, 0), (e, 1), (e, 2), (e, 3)])
  show (Instr.checkKey b (9998 + 2) t (.agg (Ek k).toArray)).run P w = .ok () w
  unfold Instr.checkKey
  rw [Sem.run_bind, run_underlying hu, Result.andThen_ok]
  simp only []
  rw [← Array.forIn_toList, Sem.run_bind]
  refine (congrArg (fun r => Result.andThen r _) (forIn_ok fun f hf => ?_)).trans (by simp)
  have hm : (f.type, f.offset) ∈ [(e, 0), (e, 1), (e, 2), (e, 3)] := by rw [← hl]; exact List.mem_map.2 ⟨f, hf, rfl⟩
  have hp : f.type = e ∧ ∃ v, (Ek k).toArray[f.offset]? = some v := by
    simp only [List.mem_cons, Prod.mk.injEq, List.not_mem_nil, or_false] at hm
    rcases hm with ⟨h1, h2⟩ | ⟨h1, h2⟩ | ⟨h1, h2⟩ | ⟨h1, h2⟩ <;> exact ⟨h1, by rw [h2]; exact ⟨_, rfl⟩⟩
  obtain ⟨h1, v, hv⟩ := hp
  rw [h1]
  have hpp := part_plain (P := P) (e := e) (w := w) hv
  split
  · simp only [Sem.run_bind, hpp, Result.andThen_ok, checkInt, Sem.run_pure]
  · simp
theorem find_ask {e : Nat} [TU P e (.int .i64)] [TG P e true] [TQ P t [(e, 0), (e, 1), (e, 2), (e, 3)]] (w : World) (k : Ky) : ∀ (es : List Me) (i : Nat), ∃ r, (Instr.findAsking t (.agg (Ek k).toArray) (es.map Me.enc) i).run P w = .ok r w ∧
    ((r = none ∧ ∀ e ∈ es, k ≠ e.k) ∨ ∃ j v, r = some (i + j, .int .i8 v) ∧ v = getK es k ∧ (∃ e, es[j]? = some e ∧ k = e.k) ∧ ∀ u, (es.map Me.enc).toArray.modify j (fun e => { e with val := .int .i8 u, key := .agg (Ek k).toArray }) = ((putAt u es k).map Me.enc).toArray) := by
  intro es
  induction es with
  | nil => intro i; exact ⟨none, by simp [Instr.findAsking], .inl ⟨rfl, fun e h => by cases h⟩⟩
  | cons e es ih =>
    intro i
    simp only [List.map_cons]
    unfold Instr.findAsking
    rw [Sem.run_bind]
    have he := ky_eq (P := P) (t := t) w k e.k
    rw [show e.enc.key = .agg (Ek e.k).toArray from rfl, he, Result.andThen_ok]
    by_cases h : k = e.k
    · refine ⟨some (i, .int .i8 e.v), by simp [h, Me.enc], .inr ⟨0, e.v, by simp, by rw [getK_cons, if_pos h], ⟨e, rfl, h⟩, fun u => ?_⟩⟩
      apply Array.ext'
      rw [Array.toList_modify]
      simp [putAt, h, Me.enc]
    · obtain ⟨r, hr, hc⟩ := ih (i + 1)
      refine ⟨r, by simp [h, hr], ?_⟩
      rcases hc with ⟨h1, h2⟩ | ⟨j, v, h1, h2, ⟨e', he', hk⟩, h4⟩
      · exact .inl ⟨h1, fun e' he' => by rcases List.mem_cons.1 he' with rfl | he'; exact h; exact h2 e' he'⟩
      · refine .inr ⟨j + 1, v, by rw [h1]; congr 2; omega, by rw [getK_cons, if_neg h, h2], ⟨e', by simpa using he', hk⟩, fun u => ?_⟩
        have := congrArg Array.toList (h4 u)
        rw [Array.toList_modify] at this
        apply Array.ext'
        rw [Array.toList_modify]
        simp only [putAt, if_neg h, List.map_cons, List.modify_succ_cons]
        rw [show (List.map Me.enc es).modify j _ = _ from this]
theorem find_key {e : Nat} [TU P e (.int .i64)] [TG P e true] [TQ P t [(e, 0), (e, 1), (e, 2), (e, 3)]] (w : World) (k : Ky) (es : List Me) : ∃ r, (Instr.findKey t (.agg (Ek k).toArray) (es.map Me.enc)).run P w = .ok r w ∧
    ((r = none ∧ ∀ e ∈ es, k ≠ e.k) ∨ ∃ j v, r = some (j, .int .i8 v) ∧ v = getK es k ∧ (∃ e, es[j]? = some e ∧ k = e.k) ∧ ∀ u, (es.map Me.enc).toArray.modify j (fun e => { e with val := .int .i8 u, key := .agg (Ek k).toArray }) = ((putAt u es k).map Me.enc).toArray) := by
  obtain ⟨fs, hu, hl⟩ := ky_struct (P := P) (t := t) (l := [(e, 0), (e, 1), (e, 2), (e, 3)])
  obtain ⟨r, hr, hc⟩ := find_ask (P := P) (t := t) w k es 0
  refine ⟨r, ?_, by simpa using hc⟩
  unfold Instr.findKey
  rw [Sem.run_bind, run_underlying hu, Result.andThen_ok]
  cases es with
  | nil =>
    simp only [List.map_nil, Instr.findNow]
    simpa [Instr.findAsking] using hr
  | cons e es =>
    have hn : Instr.findNow (.struct fs) (.agg (Ek k).toArray) ((e :: es).map Me.enc) 0 = none := by
      simp [Instr.findNow, Instr.sameNow]
    rw [hn]
    exact hr
theorem getK_none {es : List Me} {k : Ky} (h : ∀ e ∈ es, k ≠ e.k) : getK es k = 0 := by
  induction es with
  | nil => rfl
  | cons e es ih => rw [getK_cons, if_neg (h e List.mem_cons_self)]; exact ih fun e' he => h e' (List.mem_cons_of_mem _ he)
theorem run_getObj {w : World} {b c : Nat} {es : List Me} (h : w.heap[b]? = some (mpO es c)) : (getObj b).run P w = .ok (mpO es c) w := by
  simp [getObj, Sem.run, h, mpO]
theorem run_setObj {w : World} {b c : Nat} {es : List Me} (hb : w.heap[b]? = some (mpO es c)) (o : Obj) : (setObj b o).run P w = .ok () { w with heap := w.heap.setIfInBounds b o } := by
  simp [setObj, Sem.run, hb, mpO]
theorem s_look {kt vt e b c : Nat} {es : List Me} {k : Ky} [TU P t (.map kt vt)] [TU P e (.int .i64)] [TG P e true] [TQ P kt [(e, 0), (e, 1), (e, 2), (e, 3)]] [tz : TZ P vt (.int .i8 0)] (hx : ev L x = some (.map (some b))) (hy : ev L y = some (.agg (Ek k).toArray)) (hm : (b, mpO es c) ∈ H) :
    Step P κ (.lookup t x y false) ty L H (.int .i8 (getK es k)) :=
  ⟨fun ρ w d pos af g hρ st => by
    have ho := run_getObj (P := P) (st.has _ _ hm)
    obtain ⟨r, hr, hc⟩ := find_key (P := P) (t := kt) w k es
    have hck := fun b => ky_check (P := P) (t := kt) (b := b) w k
    have hl : (Instr.lookup t (.map (some b)) (.agg (Ek k).toArray) false).run P w = .ok (.int .i8 (getK es k)) w := by
      unfold Instr.lookup
      simp only [Sem.run_bind, run_u, Result.andThen_ok, ho, mpO, hck, Sem.run_pure]
      rw [hr]
      rcases hc with ⟨h1, h2⟩ | ⟨j, v, h1, h2, _⟩
      · subst h1
        rw [getK_none h2]
        simp [run_zero]
      · subst h1; subst h2
        simp
    simp [execOp, hρ _ _ hx, hρ _ _ hy, hl]⟩
theorem sameBits_ky (k : Ky) : Instr.sameBits 10000 (.agg (Ek k).toArray) (.agg (Ek k).toArray) = true := by
  show Instr.sameBits (9999 + 1) _ _ = true
  simp [Instr.sameBits, Ek]
theorem o_mset {kt vt e b c : Nat} {es : List Me} {k : Ky} {u : Int} {R : Hp} [TU P t (.map kt vt)] [TU P e (.int .i64)] [TG P e true] [TQ P kt [(e, 0), (e, 1), (e, 2), (e, 3)]] (hx : ev L x = some (.map (some b))) (hy : ev L y = some (.agg (Ek k).toArray)) (hz : ev L z = some (.int .i8 u))
    (hpk : Pick H [(b, mpO es c)] R) (h : ∀ es' c', (∀ j, getK es' j = if j = k then u else getK es j) → O P κ ops Q rest L ((b, mpO es' c') :: R)) : O P κ ops Q (⟨none, .mapUpdate t x y z, ty, pos, af, none⟩ :: rest) L H := by
  refine ⟨fun ro a w hro ok => op_want rfl ?_⟩
  have e1 := ok.fr.ev hx
  have e2 := ok.fr.ev hy
  have e3 := ok.fr.ev hz
  have st := ok.st.perm hpk.perm
  have ho := run_getObj (P := P) (st.has _ _ (List.mem_cons_self))
  obtain ⟨r, hr, hc⟩ := find_key (P := P) (t := kt) w k es
  have hck := fun b => ky_check (P := P) (t := kt) (b := b) w k
  have key : ∃ es' c', (Instr.mapUpdate t (.map (some b)) (.agg (Ek k).toArray) (.int .i8 u)).run P w = .ok () { w with heap := w.heap.setIfInBounds b (mpO es' c') } ∧ ∀ j, getK es' j = if j = k then u else getK es j := by
    rcases hc with ⟨h1, h2⟩ | ⟨j, v, h1, h2, ⟨e', he', hk⟩, h4⟩
    · refine ⟨es ++ [⟨k, u, c⟩], c + 1, ?_, fun j => getK_push h2 u c j⟩
      subst h1
      unfold Instr.mapUpdate
      simp only [Sem.run_bind, run_u, Result.andThen_ok, ho, mpO, hck, hr]
      have e9 : (List.map Me.enc es).toArray.push { key := .agg (Ek k).toArray, val := .int .i8 u, born := c } = (List.map Me.enc (es ++ [⟨k, u, c⟩])).toArray := by
        simp [Me.enc]
      exact e9 ▸ run_setObj (hb := st.has _ _ List.mem_cons_self) _
    · refine ⟨putAt u es k, c, ?_, fun i => getK_put ⟨e', List.mem_of_getElem? he', hk⟩ u i⟩
      subst h1
      unfold Instr.mapUpdate
      simp only [Sem.run_bind, run_u, Result.andThen_ok, ho, mpO, hck, hr]
      have e8 : ((Option.map (fun x => x.key) (List.map Me.enc es).toArray[j]?).getD (Value.agg (Ek k).toArray)) = .agg (Ek k).toArray := by
        rw [List.getElem?_toArray, List.getElem?_map, he']
        simp [Me.enc, hk]
      simp only [Instr.keyThatStays, e8, sameBits_ky, if_true, Sem.run_pure, Result.andThen_ok, h4]
      exact run_setObj (hb := st.has _ _ List.mem_cons_self) _
  obtain ⟨es', c', hrun, hg⟩ := key
  have : (execOp a.eval ⟨none, .mapUpdate t x y z, ty, pos, af, none⟩).run P w = .ok .skip { w with heap := w.heap.setIfInBounds b (mpO es' c') } := by
    simp [execOp, e1, e2, e3, hrun]
  exact op_skip this ((h es' c' hg).out ro _ _ hro.tail ⟨ok.fr, st.put rfl rfl rfl rfl⟩)
theorem o_mmap (hn : Nat.blt d κ.n = true) (h : ∀ b, O P κ ops Q rest ((d, .map (some b)) :: L) ((b, mpO [] 0) :: H)) : O P κ ops Q (⟨some d, .makeMap t none, ty, pos, af, none⟩ :: rest) L H :=
  o_gen (fun u H' => ∃ b, u = .map (some b) ∧ H' = (b, mpO [] 0) :: H) hn
    (fun ρ w pos af g hρ st => ⟨_, _, _, by simp [execOp, Instr.makeMap, newObj, Sem.run, mpO], ⟨_, rfl, rfl⟩, st.alloc _⟩)
    (fun u H' ⟨b, hu, hH⟩ => by subst hu; subst hH; exact h b)
end
end Go.HL
