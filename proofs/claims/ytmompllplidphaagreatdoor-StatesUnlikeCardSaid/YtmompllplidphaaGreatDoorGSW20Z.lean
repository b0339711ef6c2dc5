/- Part of the proofs over this seat: see the text that holds the theorem. Conditions: each theorem bears its own. -/
import Derived.Test.YtmompllplidphaaGreatDoorHTZ
import Derived.Test.YtmompllplidphaaGreatDoorGSW12Z
import Derived.Test.YtmompllplidphaaGreatDoorSM24Z
import Derived.Test.YtmompllplidphaaGreatDoorGSW14Z
import Derived.Test.YtmompllplidphaaGreatDoorGSW3Z
import Derived.Test.YtmompllplidphaaGreatDoorHlB
import Derived.Test.YtmompllplidphaaGreatDoorMT3Z
import Derived.Test.YtmompllplidphaaGreatDoorKQZ
import Derived.Test.YtmompllplidphaaGreatDoorGSW1Z
import Derived.Test.YtmompllplidphaaGreatDoorMC9Z
namespace Go.Proofs.YtmompllplidphaaGreatDoor
open Go Go.HL Go.Proofs Go.HL.Kl Go.HL.Kl.Mc Go.HL.Sts
theorem rep_snoc {α : Type} (k : Nat) (x : α) : List.replicate k x ++ [x] = List.replicate (k + 1) x := (List.replicate_succ').symm
theorem goesB {d : Df} (h : Shp d) {q : Int} (hq : q < d.ends.length) {c : Nat} (hc : c < 256) : -1 ≤ goesR d q c ∧ goesR d q c < d.ends.length := by
  rw [← gP_goes h q hc]; exact gP_bnd h hq c
set_option maxHeartbeats 4000000 in
theorem rUnlike_fn (d1 : Df) (aa1 : Option Addr) (ac1 : Nat) (na1 : Option Addr) (nc1 : Nat) (rows1 : List (Sl Int)) (ea1 : Option Addr) (ec1 : Nat) (hx1 : d1.next = rows1.map Sl.xs) (d2 : Df) (aa2 : Option Addr) (ac2 : Nat) (na2 : Option Addr) (nc2 : Nat) (rows2 : List (Sl Int)) (ea2 : Option Addr) (ec2 : Nat) (hx2 : d2.next = rows2.map Sl.xs) : HL.Fn Tryz.prog 19 [.agg [.slice aa1 d1.atoms.length ac1, .slice na1 rows1.length nc1, .slice ea1 d1.ends.length ec1].toArray, .agg [.slice aa2 d2.atoms.length ac2, .slice na2 rows2.length nc2, .slice ea2 d2.ends.length ec2].toArray] (fun w => RdD d1 aa1 ac1 na1 nc1 rows1 ea1 ec1 w ∧ RdD d2 aa2 ac2 na2 nc2 rows2 ea2 ec2 w) [] (RUn (unM d1 d2)) := by
  refine fn_of Tryz.func19 rfl rfl rfl fun w0 hw => ?_; refine cR fun _ hK1 => ?_; refine o_box rfl rfl rfl fun b2 => ?_; refine o_box rfl rfl rfl fun b3 => ?_; refine oA (oA (oZ hK1 (c_seq fun _ hK2 => ?_))); refine cR fun _ hK3 => ?_; refine oS (s_ldB rfl (RdPK.cels (.own meA)) lnA) ?_; refine o_callP (rShaped2_fn d1 aa1 ac1 na1 nc1 rows1 ea1 ec1 hx1) rfl rfl rfl (fun w st => hw.1.old st) (fun v16 hv16 => ?_)
  rw [← sh_eq] at hv16
  subst hv16
  cases hsh1 : shP d1
  ·refine oS (s_not rfl) ?_; refine oM ?_; refine oN ?_; refine oN ?_; refine oN ?_; refine oS sT (oZ hK3 ?_); refine cT (cR fun _ hK4 => ?_); refine oA (oA (oZ hK4 (c_ret ?_))); refine x_then_ret (?_); exact x_ret rfl (.tmp rfl (.tmp rfl (.nil))) (.inl ⟨by unfold unM; rw [hsh1]; rfl, rfl⟩)
  ·have hS1 := shP_iff.1 hsh1
   obtain ⟨z11, z21, z31, z41, z51⟩ := hS1.sz
   have hnl1 : d1.next.length = rows1.length := by rw [hx1, List.length_map]
   have hse1 := hw.1.en.sl
   refine oS (s_not rfl) ?_; refine oM ?_; refine oY ?_; refine oS (s_ldB rfl (RdPK.cels (.own meA)) lnA) ?_; refine oY ?_; refine o_callP (rShaped2_fn d2 aa2 ac2 na2 nc2 rows2 ea2 ec2 hx2) rfl rfl rfl (fun w st => hw.2.old st) (fun v20 hv20 => ?_)
   rw [← sh_eq] at hv20
   subst hv20
   cases hsh2 : shP d2
   ·refine oY ?_; refine oS (s_not rfl) ?_; refine oS sP (oZ hK3 ?_); refine cT (cR fun _ hK5 => ?_); refine oA (oA (oZ hK5 (c_ret ?_))); refine x_then_ret (?_); exact x_ret rfl (.tmp rfl (.tmp rfl (.nil))) (.inl ⟨by unfold unM; rw [hsh1, hsh2]; rfl, rfl⟩)
   ·have hS2 := shP_iff.1 hsh2
    obtain ⟨z12, z22, z32, z42, z52⟩ := hS2.sz
    have hnl2 : d2.next.length = rows2.length := by rw [hx2, List.length_map]
    have hse2 := hw.2.en.sl
    refine oY ?_; refine oS (s_not rfl) ?_; refine oS sP (oZ hK3 ?_); refine cFZ hK2 (cR fun _ hK6 => ?_); refine oS sF ?_; refine oS (s_ld rfl ((RdPK.own meA).cel (j := 2) rfl (by decide))) ?_; refine oS sC ?_; refine oS sD ?_; refine o_make (E := Ehd) (zx := (⟨none, 0, 0⟩ : Hd)) (n := d1.ends.length + 1) rfl rfl rfl (by omega) (by omega) rfl fun b27 S27 hS27 => ?_
    rw [← filZ_nil] at hS27
    refine oA (oZ hK6 (c_seq fun _ hK7 => ?_)); refine cR fun _ hK8 => ?_; refine oA (oZ hK8 (c_block ?_)); refine c_loop4 (fun (k : Nat) (heads : List Hd) (SB : Hp) (SL : Hp) => k ≤ d1.ends.length + 1 ∧ heads.length = k ∧ OwnS Ehd 1 28 (.slice (some ⟨b27, 0, none⟩) (d1.ends.length + 1) (d1.ends.length + 1)) (filZ ⟨none, 0, 0⟩ heads (d1.ends.length + 1)) SB ∧ OwnH heads (List.replicate k (List.replicate (d2.ends.length + 1) false)) SL) (fun (k : Nat) (heads : List Hd) (SB : Hp) (SL : Hp) => [(7, .int .i64 k)]) [(2, _), (3, _), (4, _), (5, _), (6, _)] (fun (k : Nat) (heads : List Hd) (SB : Hp) (SL : Hp) => (b3, .cells [.slice aa2 d2.atoms.length ac2, .slice na2 rows2.length nc2, .slice ea2 d2.ends.length ec2].toArray 30 (0, 0)) :: (b2, .cells [.slice aa1 d1.atoms.length ac1, .slice na1 rows1.length nc1, .slice ea1 d1.ends.length ec1].toArray 30 (0, 0)) :: (SB ++ SL)) (fun (k : Nat) (heads : List Hd) (SB : Hp) (SL : Hp) => d1.ends.length + 1 - k) 0 [] S27 [] ⟨by omega, rfl, hS27, .nil⟩ sbA sbA hzB ?_
    rintro k heads SB SL ⟨hk, hhl, hB, hH⟩
    have hsb := hB.sl
    rw [filZ_len (by omega)] at hsb
    refine c_seq fun _ hK9 => ?_; refine cR fun _ hK10 => ?_; refine oM (oM ?_); refine oS sC ?_
    by_cases hk1 : k < d1.ends.length + 1
    ·refine oS (step_cast (v' := .bool true) (s_lss rfl rfl) (congrArg Value.bool (decide_eq_true (by omega)))) ?_; refine oZ hK10 ?_; refine cTZ hK9 (c_seq fun _ hK11 => ?_); refine c_block (c_region (oM (oM ?_))); refine oS sF ?_; refine oS sL ?_; refine oS sC ?_; refine oS sD ?_; refine o_make (E := Ebo) (zx := false) (n := d2.ends.length + 1) rfl rfl rfl (by omega) (by omega) rfl fun b40 S40 hS40 => ?_; refine oS (s_idx rfl rfl hsb (by omega)) ?_; refine o_stS1 k (⟨some ⟨b40, 0, none⟩, d2.ends.length + 1, d2.ends.length + 1⟩ : Hd) hB pkA rfl rfl rfl (by rw [filZ_len (by omega)]; omega) (by omega) fun S41 hS41 => ?_
     rw [filZ_set hhl (by omega)] at hS41
     refine o_nil (x_block (xZ hK11 (c_region (oM ?_)))); refine oS sD (oA (o_nil ?_)); exact xI (k + 1, heads ++ [(⟨some ⟨b40, 0, none⟩, d2.ends.length + 1, d2.ends.length + 1⟩ : Hd)], S41, SL ++ S40) ⟨by omega, by simp [hhl], hS41, by rw [← rep_snoc]; exact hH.snoc (h := (⟨some ⟨b40, 0, none⟩, d2.ends.length + 1, d2.ends.length + 1⟩ : Hd)) hS40⟩
    ·obtain rfl : k = d1.ends.length + 1 := by omega
     rw [filZ_full (by omega)] at hB
     have hr1 : (List.replicate (d1.ends.length + 1) (List.replicate (d2.ends.length + 1) false))[1]? = some (List.replicate (d2.ends.length + 1) false) := by rw [List.getElem?_replicate, if_pos (by omega)]
     obtain ⟨h1_, hh1⟩ : ∃ h, heads[1]? = some h := gE
     obtain ⟨hsl1, hsl1n⟩ := hH.sl hh1 hr1
     have hsbf := hB.sl
     rw [show heads.length = d1.ends.length + 1 by omega] at hsbf
     rw [List.length_replicate] at hsl1n
     have hrl1 : (List.replicate (d2.ends.length + 1) false).length = d2.ends.length + 1 := List.length_replicate
     obtain ⟨xs1, S1, Sn, S2, hx1_, rfl, hO1, hput⟩ := hH.at hh1
     rw [hr1] at hx1_
     obtain rfl := Option.some.inj hx1_
     refine oS (step_cast (v' := .bool false) (s_lss rfl rfl) (congrArg Value.bool (decide_eq_false (by omega)))) ?_; refine oZ hK10 ?_; refine cF ?_; refine c_exit ?_; refine x_then_exit (x_then_exit (x_block_exit (xZ hK7 (cR fun _ hK12 => ?_)))); refine oS (step_cast (v' := .agg (ERb ⟨0, 0, ⟨none, 0, []⟩⟩).toArray) (s_build (cs := [_, _, _]) (vs := []) rfl rfl .nil) rfl) ?_; refine o_bs (E := ERb) (xs := [(⟨0, 0, ⟨none, 0, []⟩⟩ : Rb)]) (vs := [_]) rfl rfl rfl rfl rfl (by decide) (by decide) fun b43 S43 hS43 => ?_; refine oA (oZ hK12 (cR fun _ hK13 => ?_)); refine oM ?_; refine oS (s_idx rfl rfl hsbf (by omega)) ?_; refine oS (s_ld rfl ((hB.rdk hiA).ld 1 0 hh1 rfl (by decide) (by omega))) ?_; refine oS (s_idx rfl rfl hsl1 (by omega)) ?_; refine o_stS1 1 true hO1 pkA rfl rfl rfl (by omega) (by simp only [Hd.v]; omega) fun S47 hS47 => ?_; refine oZ hK13 (c_seq fun _ hK14 => ?_); refine cR fun _ hK15 => ?_; refine oA (oZ hK15 (c_block ?_))
     -- not carried: 4 5
     refine c_loop9 (fun (i : Nat) (rs : List Rb) (m : List Bo) (la : Option Addr) (lc : Nat) (Sl0 : Hp) (Pool : Hp) (U : List (List Bool)) (SL : Hp) => unRun d1 d2 (66051 - i) i m = unM d1 d2 ∧ i ≤ rs.length ∧ RbU d1 d2 i 0 rs m ∧ (∀ r ∈ rs, TxO Pool r.t) ∧ OwnS ERb 3 112 (.slice la rs.length lc) rs Sl0 ∧ MtI d1.ends.length d2.ends.length m U ∧ OwnH heads U SL) (fun (i : Nat) (rs : List Rb) (m : List Bo) (la : Option Addr) (lc : Nat) (Sl0 : Hp) (Pool : Hp) (U : List (List Bool)) (SL : Hp) => [(8, .slice la rs.length lc), (9, .int .i64 i)]) [(2, _), (3, _), (6, _)] (fun (i : Nat) (rs : List Rb) (m : List Bo) (la : Option Addr) (lc : Nat) (Sl0 : Hp) (Pool : Hp) (U : List (List Bool)) (SL : Hp) => (b3, .cells [.slice aa2 d2.atoms.length ac2, .slice na2 rows2.length nc2, .slice ea2 d2.ends.length ec2].toArray 30 (0, 0)) :: (b2, .cells [.slice aa1 d1.atoms.length ac1, .slice na1 rows1.length nc1, .slice ea1 d1.ends.length ec1].toArray 30 (0, 0)) :: (SB ++ (Sl0 ++ (Pool ++ SL)))) (fun (i : Nat) (rs : List Rb) (m : List Bo) (la : Option Addr) (lc : Nat) (Sl0 : Hp) (Pool : Hp) (U : List (List Bool)) (SL : Hp) => 66051 - i) 0 [⟨0, 0, ⟨none, 0, []⟩⟩] [⟨0, 0, -1, 0⟩] (some ⟨b43, 0, none⟩) 1 S43 [] _ (S1 ++ (S47 ++ S2)) ⟨by unfold unM; rw [hsh1, hsh2]; rfl, Nat.zero_le _, RbU.zero hS1 hS2, fun r hr => (by rw [List.mem_singleton.1 hr]; exact ⟨[], fun _ h => (by cases h), OwnS.nil⟩), hS43, (MtI.nil _ _).put (x := ⟨0, 0, -1, 0⟩) hr1 (by omega) rfl rfl, hput _ _ hS47⟩ sbA sbA (by change HSub _ ((b3, .cells [.slice aa2 d2.atoms.length ac2, .slice na2 rows2.length nc2, .slice ea2 d2.ends.length ec2].toArray 30 (0, 0)) :: (b2, .cells [.slice aa1 d1.atoms.length ac1, .slice na1 rows1.length nc1, .slice ea1 d1.ends.length ec1].toArray 30 (0, 0)) :: (SB ++ (S43 ++ (S1 ++ (S47 ++ S2))))); exact hzB) ?_
     rintro i rs m la lc Sl0 Pool U SL ⟨hrun, hil, hR, hTx, hO, hM, hH⟩
     have hml := hR.j.u.len z21 z22
     have hrl := hR.len
     have hsl := hO.sl
     refine c_seq fun _ hK16 => ?_; refine cR fun _ hK17 => ?_; refine oM (oM ?_); refine oS sC ?_
     by_cases hil2 : i < rs.length
     ·obtain ⟨r, hri⟩ : ∃ r, rs[i]? = some r := gE
      obtain ⟨x, hxi, hxp, hxq, htx⟩ := hR.get hri
      have hbp := hR.j.u.bp x (List.mem_of_getElem? hxi)
      have hbq := hR.j.u.bq x (List.mem_of_getElem? hxi)
      rw [hxp] at hbp
      rw [hxq] at hbq
      have hrm := List.mem_of_getElem? hri
      refine oS (step_cast (v' := .bool true) (s_lss rfl rfl) (congrArg Value.bool (decide_eq_true (by omega)))) ?_; refine oZ hK17 ?_; refine cTZ hK16 (c_seq fun _ hK18 => ?_); refine c_block (cR fun _ hK19 => ?_); refine oM (oM ?_); refine oS (s_idx rfl rfl hsl (by omega)) ?_; refine oS (s_ldB rfl ((hO.rdk hiA).lds i hri (by omega)) lnA) ?_; refine o_alloc (l := ERb ⟨0, 0, ⟨none, 0, []⟩⟩) rfl rfl fun b10 => ?_; refine o_stW rfl rfl upA lnA lnA onA ?_; refine oZ hK19 (c_seq fun _ hK20 => ?_); refine c_seq fun _ hK21 => ?_; refine c_drawE ((b10, .cells (ERb r).toArray 112 (0, 0)) :: (b3, .cells [.slice aa2 d2.atoms.length ac2, .slice na2 rows2.length nc2, .slice ea2 d2.ends.length ec2].toArray 30 (0, 0)) :: (b2, .cells [.slice aa1 d1.atoms.length ac1, .slice na1 rows1.length nc1, .slice ea1 d1.ends.length ec1].toArray 30 (0, 0)) :: (SB ++ (Sl0 ++ (Pool ++ SL)))) (fun i => false) ?_; refine eK 0 rfl (s_ldB rfl (RdPK.cels (.own meA)) lnA) ?_; refine eP 1 rfl sF ?_; refine eK 2 rfl sL ?_; refine eK 4 rfl (s_ldB rfl (RdPK.cels (.own meA)) lnA) ?_; refine eP 5 rfl sF ?_; refine eK 6 rfl sL (eO 3 rfl ?_); refine o_callC (us := []) (vs := [_, _]) (cs := []) (ends_fn d1 aa1 ac1 na1 nc1 rows1 ea1 ec1 hx1 r.p hbp.2) rfl rfl rfl (by exact .nil) (fun w st => hw.1.old st) (fun v61 S61 hv61 => ?_); subst hv61
      refine oX (eO 7 rfl ?_); refine o_callC (us := []) (vs := [_, _]) (cs := []) (ends_fn d2 aa2 ac2 na2 nc2 rows2 ea2 ec2 hx2 r.q hbq.2) rfl rfl rfl (by exact .nil) (fun w st => hw.2.old st) (fun v65 S65 hv65 => ?_); subst hv65
      refine oX ?_
      by_cases hne : endsR d1 r.p ≠ endsR d2 r.q
      ·refine eP 8 rfl (step_cast (v' := .bool true) (s_neq_bool rfl rfl) (congrArg Value.bool (decide_eq_true hne))) ?_; refine eZ hK21 ?_; refine cT (cR fun _ hK22 => ?_); refine oS sF ?_; refine oS sL (oA (oA (oZ hK22 (c_ret ?_)))); refine x_then_ret (x_block_ret (x_then_ret (x_then_ret (x_block_ret (x_then_ret (?_))))))
       refine x_sub (Sub.refl _) (H' := Pool) hzB ?_; exact x_ret rfl (.tmp rfl (.tmp rfl (.nil))) (.inr ⟨r.t.xs, r.t.a, r.t.c, by rw [← hrun]; exact hR.hit hri hne (by omega), rfl, (by obtain ⟨S0, h1, h2⟩ := hTx r hrm; exact h2.rds.mono h1)⟩)
      ·have heq := Classical.not_not.1 hne
       refine eP 8 rfl (step_cast (v' := .bool false) (s_neq_bool rfl rfl) (congrArg Value.bool (decide_eq_false hne))) ?_; refine eZ hK21 ?_; refine cFZ hK20 (cR fun _ hK23 => ?_); refine oA (oZ hK23 (c_block ?_)); refine c_loop9 (fun (c : Nat) (rs : List Rb) (n : List Bo) (la : Option Addr) (lc : Nat) (Sl0 : Hp) (Pool : Hp) (U : List (List Bool)) (SL : Hp) => c ≤ 256 ∧ n = unRow d1 d2 i x c m ∧ RbU d1 d2 i c rs n ∧ rs[i]? = some r ∧ n[i]? = some x ∧ (∀ r ∈ rs, TxO Pool r.t) ∧ OwnS ERb 3 112 (.slice la rs.length lc) rs Sl0 ∧ MtI d1.ends.length d2.ends.length n U ∧ OwnH heads U SL) (fun (c : Nat) (rs : List Rb) (n : List Bo) (la : Option Addr) (lc : Nat) (Sl0 : Hp) (Pool : Hp) (U : List (List Bool)) (SL : Hp) => [(8, .slice la rs.length lc), (11, .int .i64 c)]) [(2, _), (3, _), (6, _), (9, _), (10, _), (48, _), (49, _), (50, _), (51, _), (54, _), (55, _), (56, _), (57, _), (58, _), (59, _), (60, _), (61, _), (62, _), (63, _), (64, _), (65, _), (66, _)] (fun (c : Nat) (rs : List Rb) (n : List Bo) (la : Option Addr) (lc : Nat) (Sl0 : Hp) (Pool : Hp) (U : List (List Bool)) (SL : Hp) => (b10, .cells (ERb r).toArray 112 (0, 0)) :: (b3, .cells [.slice aa2 d2.atoms.length ac2, .slice na2 rows2.length nc2, .slice ea2 d2.ends.length ec2].toArray 30 (0, 0)) :: (b2, .cells [.slice aa1 d1.atoms.length ac1, .slice na1 rows1.length nc1, .slice ea1 d1.ends.length ec1].toArray 30 (0, 0)) :: (SB ++ (Sl0 ++ (Pool ++ SL)))) (fun (c : Nat) (rs : List Rb) (n : List Bo) (la : Option Addr) (lc : Nat) (Sl0 : Hp) (Pool : Hp) (U : List (List Bool)) (SL : Hp) => 256 - c) 0 rs m la lc Sl0 Pool U SL ⟨Nat.zero_le _, rfl, hR, hri, hxi, hTx, hO, hM, hH⟩ sbA sbA hzB ?_
       rintro c rs n la lc Sl0 Pool U SL ⟨hc, hmr, hR, hri2, hxi2, hTx, hO, hM, hH⟩
       have hnl := hR.j.u.len z21 z22
       have hrl := hR.len
       have hrm2 := List.mem_of_getElem? hri2
       refine c_seq fun _ hK24 => ?_; refine cR fun _ hK25 => ?_; refine oM ?_
       by_cases hc6 : c < 256
       ·refine oS (step_cast (v' := .bool true) (s_lss rfl rfl) (congrArg Value.bool (decide_eq_true (by omega)))) ?_; refine oZ hK25 ?_; refine cTZ hK24 (c_seq fun _ hK26 => ?_); refine c_block (cR fun _ hK27 => ?_); refine oS (s_ldB rfl (RdPK.cels (.own meA)) lnA) ?_; refine oS sF ?_; refine oS sL (oM ?_); refine oS (step_cast (v' := .int .u8 ((c : Nat) : Int)) (s_conv rfl) (congrArg _ (conv8 (by omega)))) ?_; refine o_callC (us := []) (vs := [_, _, _]) (cs := []) (goes_fn d1 aa1 ac1 na1 nc1 rows1 ea1 ec1 hx1 (fun s hs => (hS1.rows s.xs (by rw [hx1]; exact List.mem_map.2 ⟨s, hs, rfl⟩)).1) r.p (by have := hbp.2; omega) c (by omega)) rfl rfl rfl (by exact .nil) (fun w st => hw.1.old st) (fun v78 S78 hv78 => ?_)
        subst hv78
        obtain ⟨g, hg⟩ : ∃ g, g = goesR d1 r.p c := ⟨_, rfl⟩
        have hgb := goesB hS1 hbp.2 (c := c) (by omega)
        rw [← hg] at hgb
        rw [← hg]
        obtain ⟨P, hP⟩ : ∃ P : Nat, (P : Int) = g + 1 := ⟨(g + 1).toNat, by omega⟩
        refine oA (oZ hK27 (cR fun _ hK28 => ?_)); refine oS (s_ldB rfl (RdPK.cels (.own meA)) lnA) ?_; refine oS sF ?_; refine oS sL (oM ?_); refine oS (step_cast (v' := .int .u8 ((c : Nat) : Int)) (s_conv rfl) (congrArg _ (conv8 (by omega)))) ?_; refine o_callC (us := []) (vs := [_, _, _]) (cs := []) (goes_fn d2 aa2 ac2 na2 nc2 rows2 ea2 ec2 hx2 (fun s hs => (hS2.rows s.xs (by rw [hx2]; exact List.mem_map.2 ⟨s, hs, rfl⟩)).1) r.q (by have := hbq.2; omega) c (by omega)) rfl rfl rfl (by exact .nil) (fun w st => hw.2.old st) (fun v84 S84 hv84 => ?_); subst hv84
        obtain ⟨e, he⟩ : ∃ e, e = goesR d2 r.q c := ⟨_, rfl⟩
        have heb := goesB hS2 hbq.2 (c := c) (by omega)
        rw [← he] at heb
        rw [← he]
        obtain ⟨Q, hQ⟩ : ∃ Q : Nat, (Q : Int) = e + 1 := ⟨(e + 1).toNat, by omega⟩
        obtain ⟨rp, hrp, hrpl, hrq⟩ := hM.at (P := P) (Q := Q) (by omega) (by omega)
        have hhU := hH.len
        have hUl := hM.len
        obtain ⟨hd, hhp⟩ : ∃ h, heads[P]? = some h := gE
        obtain ⟨hslp, hslpn⟩ := hH.sl hhp hrp
        have hsbf := hB.sl
        rw [show heads.length = d1.ends.length + 1 by omega] at hsbf
        refine oA (oZ hK28 (cR fun _ hK29 => ?_)); refine oM (oM ?_); refine oS (step_cast (v' := .int .i64 (P : Nat)) (s_add rfl rfl (by omega)) (congrArg _ (by omega))) ?_; refine oS (s_idx rfl rfl hsbf (by omega)) ?_; refine oS (s_ld rfl ((hB.rdk hiA).ld P 0 hhp rfl (by decide) (by omega))) ?_; refine oM ?_; refine oS (step_cast (v' := .int .i64 (Q : Nat)) (s_add rfl rfl (by omega)) (congrArg _ (by omega))) ?_; refine oS (s_idx rfl rfl hslp (by omega)) ?_
        by_cases hpq : uG U P Q = true
        ·have hgP : g = gP d1 x.p c := by rw [gP_goes hS1 _ (by omega), hxp, hg]
         have heP : e = gP d2 x.q c := by rw [gP_goes hS2 _ (by omega), hxq, he]
         have hin : (gP d1 x.p c, gP d2 x.q c) ∈ n.map Bo.pq := by rw [← hgP, ← heP]; exact (hM.get g e P Q hP hQ (by omega) (by omega)).1 hpq
         refine oS (step_cast (v' := .bool true) (s_ld rfl ((hH.rdk hiA hhp hrp).ld Q 0 hrq rfl (by decide) (by simp only [Hd.v]; omega))) (by rw [hpq])) ?_; refine oS (s_not rfl) ?_; refine oZ hK29 ?_; refine cF (c_skip (x_block (xZ hK26 (c_region (oM ?_))))); refine oS sD (oA (o_nil ?_)); exact xI (c + 1, rs, n, la, lc, Sl0, Pool, U, SL) ⟨by omega, by rw [hmr] at hin; rw [hmr, unRow_old hin], hR.old hS1 hS2 (by omega) hxi2 hin, hri2, hxi2, hTx, hO, hM, hH⟩
        ·have hgP : g = gP d1 x.p c := by rw [gP_goes hS1 _ (by omega), hxp, hg]
         have heP : e = gP d2 x.q c := by rw [gP_goes hS2 _ (by omega), hxq, he]
         have hno : (gP d1 x.p c, gP d2 x.q c) ∉ n.map Bo.pq := by rw [← hgP, ← heP]; exact fun h => hpq ((hM.get g e P Q hP hQ (by omega) (by omega)).2 h)
         have hti := hTx r hrm2
         obtain ⟨S0, hS0, hT0⟩ := hti
         have hT := hT0.rds.mono hS0
         have hTl := hR.tlen hri2
         have hil3 := (List.getElem?_eq_some_iff.1 hri2).1
         obtain ⟨xs, S1, Sn, S2, hx1_, rfl, hO1, hput⟩ := hH.at hhp
         rw [hrp] at hx1_
         obtain rfl := Option.some.inj hx1_
         refine oS (step_cast (v' := .bool false) (s_ld rfl ((hH.rdk hiA hhp hrp).ld Q 0 hrq rfl (by decide) (by simp only [Hd.v]; omega))) (by rw [Bool.not_eq_true] at hpq; rw [hpq])) ?_; refine oS (s_not rfl) ?_; refine oZ hK29 ?_; refine cT (cR fun _ hK30 => ?_); refine oM (oM ?_); refine oS (step_cast (v' := .int .i64 (P : Nat)) (s_add rfl rfl (by omega)) (congrArg _ (by omega))) ?_; refine oS (s_idx rfl rfl hsbf (by omega)) ?_; refine oS (s_ld rfl ((hB.rdk hiA).ld P 0 hhp rfl (by decide) (by omega))) ?_; refine oM ?_; refine oS (step_cast (v' := .int .i64 (Q : Nat)) (s_add rfl rfl (by omega)) (congrArg _ (by omega))) ?_; refine oS (s_idx rfl rfl hslp (by omega)) ?_; refine o_stS1 Q true hO1 pkA rfl rfl rfl (by omega) (by simp only [Hd.v]; omega) fun S102 hS102 => ?_; refine oZ hK30 (cR fun _ hK31 => ?_); refine oA (oZ hK31 (cR fun _ hK32 => ?_)); refine oM ?_; refine oS sF ?_; refine oS sL ?_; refine o_app OwnS.nil (hT.rdk hiA) rfl rfl rfl rfl (by simp; omega) (by simp; omega) rfl (by exact .nil) fun a106 c106 S106 hS106 => ?_; refine oA (oZ hK32 (c_region (oM (oM (oM (oM (oM ?_))))))); refine oS (step_cast (v' := .int .u8 ((UInt8.ofNat c).toNat : Nat)) (s_conv rfl) (by rw [show (UInt8.ofNat c).toNat = c by simp [UInt8.toNat_ofNat']; omega]; exact congrArg _ (conv8 (by omega)))) ?_
         refine o_bs (E := Eb) (xs := [UInt8.ofNat c]) (vs := [_]) rfl rfl rfl rfl rfl (by decide) (by decide) fun b113 S113 hS113 => ?_; refine o_app hS106 (hS113.rdk hiA) rfl rfl rfl rfl (by simp; omega) (by simp; omega) rfl pkA fun a114 c114 S114 hS114 => ?_; refine oS (step_cast (v' := .agg (ERb ⟨g, e, ⟨a114, c114, r.t.xs ++ [UInt8.ofNat c]⟩⟩).toArray) (s_build (cs := [_, _, _]) (vs := [_, _, _]) rfl rfl (.cons rfl rfl rfl rfl rfl (.cons rfl rfl rfl rfl rfl (.cons rfl rfl rfl rfl rfl .nil)))) rfl) ?_; refine o_bs (E := ERb) (xs := [(⟨g, e, ⟨a114, c114, r.t.xs ++ [UInt8.ofNat c]⟩⟩ : Rb)]) (vs := [_]) rfl rfl rfl rfl rfl (by decide) (by decide) fun b116 S116 hS116 => ?_; refine o_app hO (hS116.rdk hiA) rfl rfl rfl rfl (by simp; omega) (by simp; omega) rfl pkA fun a117 c117 S117 hS117 => ?_; refine oA (o_nil (x_block (xZ hK26 ?_)))
         refine c_region (oM ?_); refine oS sD (oA (o_nil ?_)); exact x_then (x_inv (c + 1, rs ++ [(⟨g, e, ⟨a114, c114, r.t.xs ++ [UInt8.ofNat c]⟩⟩ : Rb)], n ++ [⟨gP d1 x.p c, gP d2 x.q c, i, c⟩], a117, c117, S117, S114 ++ Pool, _, S1 ++ (S102 ++ S2)) ⟨by omega, by rw [hmr] at hno; rw [hmr, unRow_new hno], hR.new hS1 hS2 (by omega) hxi2 hri2 hno rfl hgP heP, get_app hri2, get_app hxi2, fun q hq => (by rcases List.mem_append.1 hq with h | h; (· exact (hTx q h).mono HIn.appR); (· rw [List.mem_singleton.1 h]; exact ⟨S114, HIn.appL, hS114⟩)), hS117, hM.put (x := ⟨gP d1 x.p c, gP d2 x.q c, i, c⟩) hrp (by omega) (by rw [hP, hgP]) (by rw [hQ, heP]), hput _ _ hS102⟩ (by first | omega | (dsimp only; omega)) sbA (by simp only [List.append_assoc]; exact hzB))
       ·obtain rfl : c = 256 := by omega
        refine oS (step_cast (v' := .bool false) (s_lss rfl rfl) (congrArg Value.bool (decide_eq_false (by omega)))) ?_; refine oZ hK25 ?_; refine cF ?_; refine c_exit ?_; refine x_then_exit (x_then_exit (x_block_exit (x_block (xZ hK18 (c_region (oM ?_)))))); refine oS sD (oA (o_nil ?_)); exact x_then (x_inv (i + 1, rs, n, la, lc, Sl0, Pool, U, SL) ⟨by rw [← hrun, unRun_step (by omega) hxi (by rw [hxp, hxq]; exact heq), ← hmr, Nat.sub_sub], (by have := (List.getElem?_eq_some_iff.1 hri2).1; dsimp only; omega), ⟨hR.j.next hxi2 (by rw [hxp, hxq]; exact heq), hR.pq⟩, hTx, hO, hM, hH⟩ (by have := (List.getElem?_eq_some_iff.1 hri2).1; dsimp only; omega) sbA hzB)
     ·refine oS (step_cast (v' := .bool false) (s_lss rfl rfl) (congrArg Value.bool (decide_eq_false (by omega)))) ?_; refine oZ hK17 ?_; refine cF ?_; refine c_exit ?_; refine x_then_exit (x_then_exit (x_block_exit (xZ hK14 (cR fun _ hK33 => ?_)))); refine oA (oA (oZ hK33 (c_ret ?_))); refine ?_; exact x_ret rfl (.tmp rfl (.tmp rfl (.nil))) (.inl ⟨by rw [← hrun, unRun_end (by omega)], rfl⟩)
end Go.Proofs.YtmompllplidphaaGreatDoor
namespace Go.HL.Sts
open Go Go.HL Go.HL.Kl Go.HL.Kl.Mc
def spZ (j : Nat) : Int := ((1048576 * 9 + j + 1 : Nat) : Int)
def spC (j : Nat) : Kl.Cl := BitVec.ofNat 256 ((1048576 * 9 + j + 1) + 7 * 2 ^ 64)
theorem Ec_sp {j : Nat} (h : j ≤ 4294967296) : Ec (spC j) = [.int .u64 ((1048576 * 9 + j + 1 : Nat) : Int), .int .u64 7, .int .u64 0, .int .u64 0] := by
  have e : (spC j).toNat = (1048576 * 9 + j + 1) + 7 * 2 ^ 64 := by
    unfold spC
    rw [BitVec.toNat_ofNat]
    omega
  have w : ∀ i, (wd (spC j) i).toNat = ((1048576 * 9 + j + 1) + 7 * 2 ^ 64) / 2 ^ (64 * i) % 2 ^ 64 := by
    intro i
    unfold wd
    rw [BitVec.extractLsb'_toNat, e, Nat.shiftRight_eq_div_pow]
  have w0 : (wd (spC j) 0).toNat = 1048576 * 9 + j + 1 := by rw [w]; omega
  have w1 : (wd (spC j) 1).toNat = 7 := by rw [w]; omega
  have w2 : (wd (spC j) 2).toNat = 0 := by rw [w]; omega
  have w3 : (wd (spC j) 3).toNat = 0 := by rw [w]; omega
  unfold Ec Ew
  rw [w0, w1, w2, w3]; rfl
def spBo (j : Nat) : Bool := decide (IntKind.i64.wrap ((BitVec.ofInt IntKind.i64.bits (((1048576 * 9 + j + 1 : Nat) : Int).fdiv (2 ^ (min ((20 + j % 8 : Nat) : Int).toNat IntKind.i64.bits))) &&& BitVec.ofInt IntKind.i64.bits 1).toNat : Int) = 1)
theorem convu64 {n : Nat} (h : n < 18446744073709551616) : IntKind.u64.wrap (n : Int) = (n : Int) := by simp [IntKind.wrap, IntKind.signed, IntKind.bits]; omega
end Go.HL.Sts
namespace Go.HL.Kl.Mc
open Go Go.HL Go.HL.Kl
def RR (x : Nd) (D : Nat → Nat → Prop) (r p q : Nat) : Prop := ∃ k : Nat, x.mn ≤ ((r + k : Nat) : Int) ∧ (x.mx = -1 ∨ ((r + k : Nat) : Int) ≤ x.mx) ∧ pow D k p q
def RQ (x : Nd) (D : Nat → Nat → Prop) (r p q m : Nat) : Prop := (x.mx = -1 ∨ (r : Int) < x.mx) ∧ (m ≠ p ∨ (r : Int) < x.mn ∨ r = 0) ∧ D p m ∧ RR x D (r + 1) m q
inductive Qry (w : List UInt8) (re : List Nd) : Ky → Prop
  | alt {x : Nd} {ks : F} {i i1 p q : Nat} (hp : Part re (.nd x ks .nil) i i1) (h5 : x.op = 5) (h : der w ks true p q) : Qry w re ⟨i, -1, p, q⟩
  | cat {x : Nd} {ks g : F} {i i1 m p q : Nat} (hp : Part re (.nd x ks .nil) i i1) (h4 : x.op = 4) (hg : Part re g m i1) (h : der w g false p q) : Qry w re ⟨i, m, p, q⟩
  | rep {x : Nd} {ks : F} {i i1 r p q : Nat} (hp : Part re (.nd x ks .nil) i i1) (h6 : x.op = 6) (h : RR x (der w ks false) r p q) : Qry w re ⟨i, r, p, q⟩
def MapOk (w : List UInt8) (re : List Nd) (es : List Me) : Prop := ∀ k, getK es k = 0 ∨ (getK es k = 1 ∧ Qry w re k) ∨ (getK es k = -1 ∧ ¬ Qry w re k)
open Classical in
noncomputable def dQ (Q : Prop) : Bool := decide Q
attribute [irreducible] dQ
structure AskE where
  (bRe bTx bA bS bE bM nF rF : Nat)
  (ra : Option Addr) (rc : Nat) (re : List Nd) (ta : Option Addr) (tc : Nat) (tx : List UInt8) (l : List Nat)
namespace AskE
abbrev vre (K : AskE) : Value := .slice K.ra K.re.length K.rc
abbrev vtx (K : AskE) : Value := .slice K.ta K.tx.length K.tc
abbrev ven (K : AskE) : Value := .slice (some ⟨K.bE, 0, none⟩) K.re.length K.re.length
abbrev pt (b : Nat) : Value := .pointer (some ⟨b, 0, none⟩)
abbrev cells (K : AskE) : List Value := [K.vre, K.ven, K.vtx, .map (some K.bM), .func (.func K.nF) [].toArray [pt K.bRe, pt K.bTx, pt K.bA].toArray, .func (.func K.rF) [].toArray [pt K.bA].toArray]
end AskE
open AskE
structure Env (w : World) (K : AskE) (M : List Nat) : Prop where
  p1 : RdP w K.bRe 0 [K.vre]
  p2 : RdP w K.bTx 0 [K.vtx]
  p3 : RdP w K.bA 0 [pt K.bS]
  p4 : RdP w K.bS 0 K.cells
  d1 : Rd En w K.vre K.re
  d2 : Rd Eb w K.vtx K.tx
  d3 : Rd Eix w K.ven K.l
  n1 : K.bRe ∉ M
  n2 : K.bTx ∉ M
  n3 : K.bA ∉ M
  n4 : K.bS ∉ M
  a1 : Apart M K.vre
  a2 : Apart M K.vtx
  a3 : Apart M K.ven
structure AskE.ok (K : AskE) : Prop where
  rng : ∀ x ∈ K.re, -128 ≤ x.op ∧ x.op < 128
  no8 : ∀ x ∈ K.re, ¬ x.op = 8
  len : K.re.length ≤ 1000000
  tx : K.tx.length ≤ 1000000
  ends : EndsOk K.re 0 K.l
def AnsK (K : AskE) (Q : Prop) (v : Value) (S' : Hp) : Prop := ∃ es c, v = .bool (dQ Q) ∧ S' = [(K.bM, mpO es c)] ∧ MapOk K.tx K.re es
def NodeK (P : Program) (K : AskE) (x : Nd) (ks : F) : Prop := ∀ (i i1 p q : Nat) (es : List Me) (c : Nat), Part K.re (.nd x ks .nil) i i1 → p ≤ q → q ≤ K.tx.length → MapOk K.tx K.re es →
  Fn P K.nF [.int .i64 i, .int .i64 p, .int .i64 q, pt K.bRe, pt K.bTx, pt K.bA] (fun W => Env W K [K.bM]) [(K.bM, mpO es c)] (AnsK K (der1 K.tx x ks p q))
def RestK (P : Program) (K : AskE) (k : Ky) : Prop := ∀ (es : List Me) (c : Nat), MapOk K.tx K.re es →
  Fn P K.rF [.agg (Ek k).toArray, pt K.bA] (fun W => Env W K [K.bM]) [(K.bM, mpO es c)] (AnsK K (Qry K.tx K.re k))
def FindK (P : Program) (K : AskE) (fn : Nat) (k : Ky) : Prop := ∀ (es : List Me) (c : Nat), MapOk K.tx K.re es →
  Fn P fn [pt K.bS, .agg (Ek k).toArray] (fun W => Env W K [K.bM]) [(K.bM, mpO es c)] (AnsK K (Qry K.tx K.re k))
def Grt (Q : Nat → Prop) (p q m : Nat) : Prop := p ≤ m ∧ m ≤ q ∧ Q m ∧ ∀ n, m < n → n ≤ q → ¬ Q n
def KidP (K : AskE) (Q : Nat → Prop) (p q : Nat) (v : Value) (S' : Hp) : Prop := ∃ es c, S' = [(K.bM, mpO es c)] ∧ MapOk K.tx K.re es ∧
  ((∃ m, Grt Q p q m ∧ v = .tuple #[.int .i64 m, .bool true]) ∨ ((∀ m, p ≤ m → m ≤ q → ¬ Q m) ∧ v = .tuple #[.int .i64 0, .bool false]))
def KidK (P : Program) (K : AskE) (fn : Nat) (k : Ky) (Q : Nat → Prop) (p q : Nat) : Prop := ∀ (es : List Me) (c : Nat), MapOk K.tx K.re es →
  Fn P fn [pt K.bS, .agg (Ek k).toArray] (fun W => Env W K [K.bM]) [(K.bM, mpO es c)] (KidP K Q p q)
end Go.HL.Kl.Mc
namespace Go.HL.Kl.Mc
open Go Go.HL Go.HL.Kl
def Up (D : Nat → Nat → Prop) : Prop := ∀ p q, D p q → p ≤ q
def nxtR (x : Nd) (r : Nat) : Nat := if x.mx < 0 then min (r + 1) (max x.mn.toNat 1) else r + 1
structure Sp where
  fr : Int
  to : Int
  deriving DecidableEq
def Esp (s : Sp) : List Value := [.int .i64 s.fr, .int .i64 s.to]
instance : Enc Esp 2 := ⟨fun _ => rfl, fun x v hv => by
  simp only [Esp, List.mem_cons, List.not_mem_nil, or_false] at hv
  rcases hv with rfl | rfl <;> rfl⟩
def noS : Sp := ⟨-1, -1⟩
def fg1 (cs : List Sp) (x : Nd) : List Sp := if x.op = 7 then cs.set x.n.toNat noS else cs
def fgt (l : List Nd) (cs : List Sp) : List Sp := l.foldl fg1 cs
def fgtTo (re : List Nd) (a j : Nat) (cs : List Sp) : List Sp := fgt ((re.drop a).take (j - a)) cs
open Classical in
noncomputable def grt (Q : Nat → Prop) (p q : Nat) : Nat := if h : ∃ m, Grt Q p q m then h.choose else 0
attribute [irreducible] grt
noncomputable def reps (x : Nd) (D : Nat → Nat → Prop) (B : Nat → Nat → List Sp → List Sp) (q : Nat) : Nat → Nat → Nat → List Sp → List Sp
  | 0, _, _, cs => cs
  | f + 1, r, p, cs => if dQ (∃ m, Grt (RQ x D r p q) p q m) = true then reps x D B q f (nxtR x r) (grt (RQ x D r p q) p q) (B p (grt (RQ x D r p q) p q) cs) else cs
noncomputable def bst (w : List UInt8) : F → Bool → Nat → Nat → List Sp → List Sp
  | .nil, _, _, _, cs => cs
  | .nd x ks r, m, p, q, cs =>
    let one : Nat → Nat → List Sp → List Sp := fun p q cs =>
      if x.op = 7 then (bst w ks false p q (fgt ks.flat cs)).set x.n.toNat ⟨p, q⟩
      else if x.op = 5 then bst w ks true p q cs
      else if x.op = 4 then bst w ks false p q cs
      else if x.op = 6 then reps x (der w ks false) (fun p q cs => bst w ks false p q (fgt ks.flat cs)) q ((q - p) + max x.mn.toNat 1 + 1) 0 p cs
      else cs
    if m = true then (if dQ (der1 w x ks p q) = true then one p q cs else bst w r true p q cs)
    else bst w r false (grt (fun n => der1 w x ks p n ∧ der w r false n q) p q) q (one p (grt (fun n => der1 w x ks p n ∧ der w r false n q) p q) cs)
noncomputable def bst1 (w : List UInt8) (x : Nd) (ks : F) (p q : Nat) (cs : List Sp) : List Sp :=
  if x.op = 7 then (bst w ks false p q (fgt ks.flat cs)).set x.n.toNat ⟨p, q⟩
  else if x.op = 5 then bst w ks true p q cs
  else if x.op = 4 then bst w ks false p q cs
  else if x.op = 6 then reps x (der w ks false) (fun p q cs => bst w ks false p q (fgt ks.flat cs)) q ((q - p) + max x.mn.toNat 1 + 1) 0 p cs
  else cs
def gcn (l : List Nd) : Nat := l.countP (fun x => decide (x.op = 7))
def Numd (re : List Nd) (b i i' b' : Nat) : Prop := b' + gcn (re.take i) = b + gcn (re.take i') ∧ ∀ j x, i ≤ j → j < i' → re[j]? = some x → x.op = 7 → x.n + (gcn (re.take i) : Nat) = (b : Int) + (gcn (re.take j) : Nat) + 1
end Go.HL.Kl.Mc
namespace Go.HL
open Go
end Go.HL
namespace Go.HL.Kl.Mc
open Go Go.HL Go.HL.Kl AskE
structure AskG (T n : Nat) where
  (bE bM bA bS : Nat) (S : Hp)
  (h : OwnS Eix 1 T (.slice (some ⟨bE, 0, none⟩) n n) (List.replicate n 0) S)
noncomputable def capsV (w : List UInt8) (re : List Nd) (x : Nd) (ks : F) (p q : Nat) : List Sp := (bst1 w x ks p q (List.replicate (gcn re + 1) noS)).set 0 ⟨p, q⟩
def Slots (re : List Nd) (n : Nat) : Prop := ∀ y ∈ re, y.op = 7 → 0 ≤ y.n ∧ y.n.toNat < n
def TakeP (K : AskE) (T : Nat) (ca : Option Addr) (cc N : Nat) (cs : List Sp) (S' : Hp) : Prop := ∃ es c Sc, S' = (K.bM, mpO es c) :: Sc ∧ MapOk K.tx K.re es ∧ OwnS Esp 2 T (.slice ca N cc) cs Sc
def TakeK (P : Program) (K : AskE) (fn T : Nat) (x : Nd) (ks : F) : Prop := ∀ (i i1 p q : Nat) (es : List Me) (c : Nat) (ca : Option Addr) (cc N : Nat) (cs : List Sp) (Sc : Hp), Part K.re (.nd x ks .nil) i i1 → p ≤ q → q ≤ K.tx.length → der1 K.tx x ks p q → MapOk K.tx K.re es → cs.length = N → Slots K.re N → OwnS Esp 2 T (.slice ca N cc) cs Sc →
  Fn P fn [pt K.bS, .int .i64 i, .int .i64 p, .int .i64 q, .slice ca N cc] (fun W => Env W K (keys ((K.bM, mpO es c) :: Sc))) ((K.bM, mpO es c) :: Sc) (fun _ S' => TakeP K T ca cc N (bst1 K.tx x ks p q cs) S')
def CapsP (K : AskE) (T : Nat) (cs : List Sp) (v : Value) (S' : Hp) : Prop := ∃ es c a cc Sc, v = .slice a cs.length cc ∧ S' = (K.bM, mpO es c) :: Sc ∧ OwnS Esp 2 T (.slice a cs.length cc) cs Sc
end Go.HL.Kl.Mc
namespace Go.HL.Kl.Mc
open Go Go.HL Go.HL.Kl
def CodeP (T n : Nat) (v : Value) (S' : Hp) : Prop := ∃ (a : Option Addr) (c : Nat) (m : List In), v = .slice a m.length c ∧ m.length = n ∧ OwnS Ein 7 T (.slice a m.length c) m S'
def CodeC (P : Program) (fn T : Nat) (x : Nd) (ks : F) : Prop := ∀ (ma : Option Addr) (mc : Nat) (m : List In) (Sm : Hp) (ra : Option Addr) (rc : Nat) (re : List Nd) (i i1 : Nat), (∀ x ∈ re, -128 ≤ x.op ∧ x.op < 128) → (∀ x ∈ re, ¬ x.op = 8) → re.length ≤ 1000000 → Part re (.nd x ks .nil) i i1 → OwnS Ein 7 T (.slice ma m.length mc) m Sm → m.length + lenT x ks ≤ 70000 →
  Fn P fn [.slice ma m.length mc, .slice ra re.length rc, .int .i64 i] (fun W => Rd En W (.slice ra re.length rc) re ∧ Apart (keys Sm) (.slice ra re.length rc)) Sm (CodeP T (m.length + lenT x ks))
end Go.HL.Kl.Mc
namespace Go.HL.Kl.Mc
open Go Go.HL Go.HL.Kl Go.RowKit Go.ChangeShapes Go.WideShapes Go.ChangeAt
def Ew1 (w : BitVec 64) : List Value := [Ew w]
instance : Enc Ew1 1 := ⟨fun _ => rfl, fun _ v hv => by simp [Ew1, Ew] at hv; subst hv; rfl⟩
theorem open_u64 {P : Program} {t : TypeId} (ht : P.underlying t = some (.int .u64)) : Opens P t Ew1 (fun _ _ => True) := by
  refine ⟨fun enc w fuel cs x h _ => ?_⟩
  obtain ⟨n, rfl, _, hw⟩ := DataW.trod_int ht h
  have hb : 0 ≤ n ∧ n ≤ 18446744073709551615 := by
    simp only [Lit.wf] at hw
    simpa [IntKind.min, IntKind.max, IntKind.signed, IntKind.bits] using hw
  refine ⟨BitVec.ofNat 64 n.toNat, ?_, trivial⟩
  have e : (BitVec.ofNat 64 n.toNat).toNat = n.toNat := by
    rw [BitVec.toNat_ofNat]
    exact Nat.mod_eq_of_lt (by rw [show (2 : Nat) ^ 64 = 18446744073709551616 from by decide]; omega)
  simp only [Ew1, Ew, e, List.cons.injEq, Value.int.injEq, true_and, and_true]
  omega
def mk4 (a b c d : BitVec 64) : Cl := setw (setw (setw (setw 0 0 a) 1 b) 2 c) 3 d
theorem mk4_wd (a b c d : BitVec 64) : Ec (mk4 a b c d) = [Ew a, Ew b, Ew c, Ew d] := by
  simp [Ec, mk4, wd_setw]
theorem open_cl {P : Program} {t e : TypeId} (ht : P.underlying t = some (.array 4 e)) (he : P.underlying e = some (.int .u64)) (hk : P.cellsOf e = 1) (hc : P.cellsOf t = 4) : Opens P t Ec (fun _ _ => True) := by
  refine ⟨fun enc w fuel cs x h hw => ?_⟩
  obtain ⟨xs, rfl, hl, _⟩ := (open_array ht hk (by rw [hc]) (open_u64 he)).out enc w fuel cs x h hw
  match xs, hl with
  | [a, b, c, d], _ => exact ⟨mk4 a b c d, by rw [mk4_wd]; rfl, trivial⟩
def Ei8 (n : Int) : List Value := [.int .i8 n]
instance : Enc Ei8 1 := ⟨fun _ => rfl, fun _ _ h => by simp [Ei8] at h; subst h; rfl⟩
end Go.HL.Kl.Mc
namespace Go.HL.Kl.Mc
open Go Go.HL Go.HL.Kl
noncomputable def errC (re : List Nd) : Int := if shapedB re = false then 49 else if refsB re = true then 44 else 0
structure SetsTo (l : List Nd) (n j : Nat) : Prop where
  len : l.length = n
  rng : ∀ x ∈ l, -128 ≤ x.op ∧ x.op < 128
  get : ∀ t, t < j → ∃ y, l[t]? = some y ∧ y.op = 1 ∧ y.kids = 0
def cls9 (j : Nat) : Cl := mk4 9#64 0#64 (BitVec.ofNat 64 j) 0#64
attribute [irreducible] cls9
def spN (i : Nat) : Nd := ⟨0, 0, ((1048576 * 9 + i + 1 : Nat) : Int), -7, 0, 0⟩
end Go.HL.Kl.Mc
namespace Go.HL.Kl.Mc
open Go Go.HL Go.HL.Kl AskE
structure May (re : List Nd) (w : List UInt8) (x : Nd) (ks : F) : Prop where
  sh : shapedB re = true
  rf : refsB re = false
  hs : Shp re x ks
def CapO (T : Nat) (w : List UInt8) (re : List Nd) (x : Nd) (ks : F) (p q : Nat) (v : Value) (S' : Hp) : Prop := ∃ a cc, v = .tuple #[.slice a (capsV w re x ks p q).length cc, .bool true] ∧ OwnS Esp 2 T (.slice a (capsV w re x ks p q).length cc) (capsV w re x ks p q) S'
def BestP (T : Nat) (re : List Nd) (w : List UInt8) (fr to : Int) (v : Value) (S' : Hp) : Prop :=
  (∃ x ks, ∃ p q : Nat, May re w x ks ∧ fr = p ∧ to = q ∧ p ≤ q ∧ q ≤ w.length ∧ der1 w x ks p q ∧ CapO T w re x ks p q v S') ∨
  ((¬ ∃ x ks, ∃ p q : Nat, May re w x ks ∧ fr = p ∧ to = q ∧ p ≤ q ∧ q ≤ w.length ∧ der1 w x ks p q) ∧ v = .tuple #[.slice none 0 0, .bool false] ∧ S' = [])
structure Lft (w : List UInt8) (x : Nd) (ks : F) (f p q : Nat) : Prop where
  ge : f ≤ p
  le : p ≤ q
  len : q ≤ w.length
  der : der1 w x ks p q
  left : ∀ p' q', f ≤ p' → p' < p → q' ≤ w.length → ¬ der1 w x ks p' q'
  long : ∀ q', q < q' → q' ≤ w.length → ¬ der1 w x ks p q'
def FindP (T : Nat) (re : List Nd) (w : List UInt8) (f : Int) (v : Value) (S' : Hp) : Prop :=
  (∃ x ks, ∃ g p q : Nat, May re w x ks ∧ f = g ∧ Lft w x ks g p q ∧ CapO T w re x ks p q v S') ∨
  ((¬ ∃ x ks, ∃ g p q : Nat, May re w x ks ∧ f = g ∧ g ≤ p ∧ q ≤ w.length ∧ der1 w x ks p q) ∧ v = .tuple #[.slice none 0 0, .bool false] ∧ S' = [])
end Go.HL.Kl.Mc
namespace Go.HL.Kl.Mc
open Go Go.HL Go.HL.Kl
structure RowsP (rs : List (Sl Bool)) (N : Nat) (D : Nat → Nat → Prop) : Prop where
  len : rs.length = N + 1
  get : ∀ p, p ≤ N → ∃ s, rs[p]? = some s ∧ IsS s.xs N (D p)
structure RowsTo (rs : List (Sl Bool)) (N k : Nat) (D : Nat → Nat → Prop) : Prop where
  len : rs.length = k
  get : ∀ p, p < k → ∃ s, rs[p]? = some s ∧ IsS s.xs N (D p)
structure RdRows (W : World) (v : Value) (rs : List (Sl Bool)) : Prop where
  out : Rd (Esl (α := Bool)) W v rs
  row : ∀ s ∈ rs, Rd Ebo W (.slice s.a s.xs.length s.c) s.xs
/-! a set, added place by place -/
def orTo (a b : List Bool) (i : Nat) : List Bool := (List.range a.length).map fun j => if j < i then orF a b j else bo0 a j
def fromTo (D : Nat → Nat → Prop) (P : Nat → Prop) (k q : Nat) : Prop := ∃ p, p < k ∧ P p ∧ D p q
structure AgP (N : Nat) (D : Nat → Nat → Prop) (p : Nat) (out : List Bool) (todo : List Nat) : Prop where
  len : out.length = N + 1
  me : out[p]? = some true
  sound : ∀ q : Nat, out[q]? = some true → ∃ k, pow D k p q
  td : ∀ t ∈ todo, out[t]? = some true
  closed : ∀ q : Nat, out[q]? = some true → q ∉ todo → ∀ r, r ≤ N → D q r → out[r]? = some true
structure AgK (N : Nat) (D : Nat → Nat → Prop) (p t k : Nat) (out : List Bool) (todo : List Nat) : Prop where
  len : out.length = N + 1
  me : out[p]? = some true
  tt : out[t]? = some true
  sound : ∀ q : Nat, out[q]? = some true → ∃ k, pow D k p q
  td : ∀ t ∈ todo, out[t]? = some true
  closed : ∀ q : Nat, out[q]? = some true → q ∉ todo → q ≠ t → ∀ r, r ≤ N → D q r → out[r]? = some true
  part : ∀ r, r < k → D t r → out[r]? = some true
def mvN (g : Nat) (x : Nd) : Nd := if 0 < x.n then { x with n := IntKind.i64.wrap (x.n + g) } else x
def F.mv (g : Nat) : F → F
  | .nil => .nil
  | .nd x ks r => .nd (mvN g x) (ks.mv g) (r.mv g)
def catN : Nd := ⟨4, 0, 0, 0, 0, 2⟩
def altN : Nd := ⟨5, 0, 0, 0, 0, 2⟩
def twoL (n : Nd) (a b : List Nd) (g : Nat) : List Nd := n :: (a ++ b.map (mvN g))
end Go.HL.Kl.Mc
namespace Go.HL.Kl.Mc
open Go Go.HL Go.HL.Kl
def mvTo (g : Nat) (b : List Nd) (j : Nat) : List Nd := (b.take j).map (mvN g) ++ b.drop j
def RowsC (N : Nat) (D : Nat → Nat → Prop) (v : Value) (S : Hp) : Prop := ∃ (a : Option Addr) (c : Nat) (rs : List (Sl Bool)), v = .slice a rs.length c ∧ RowsP rs N D ∧ ∀ W : World, (∀ b o, (b, o) ∈ S → W.heap[b]? = some o) → RdRows W (.slice a rs.length c) rs
def RdRS (v : Value) (rs : List (Sl Bool)) (S : Hp) : Prop := ∀ W : World, (∀ b o, (b, o) ∈ S → W.heap[b]? = some o) → RdRows W v rs
def CompOk (re : List Nd) (sv : Value) (S : Hp) (x : Nd) (ks : F) : Prop := ∃ a, shapedB re = true ∧ refsB re = false ∧ Shp re x ks ∧ sv = .slice a (mach (.nd x ks .nil)).length (mach (.nd x ks .nil)).length ∧ RdS Ein (.slice a (mach (.nd x ks .nil)).length (mach (.nd x ks .nil)).length) (mach (.nd x ks .nil)) S
/-! well shaped: forests without groups and references -/
def F.plain : F → Prop
  | .nil => True
  | .nd x ks r => (¬ x.op = 7 ∧ ¬ x.op = 8) ∧ ks.plain ∧ r.plain
def endN : Nd := ⟨4, 0, 0, 0, 0, 0⟩
def rowN (n : Nat) : Nd := ⟨4, 0, 0, 0, 0, (n : Int) + 1⟩
def timN (l m : Nat) : Nd := ⟨6, 0, 0, l, (l : Int) + m, 1⟩
def rowF : List UInt8 → F
  | [] => .nd endN .nil .nil
  | b :: bs => .nd (letN b) .nil (rowF bs)
def rowR (row : List UInt8) (l m : Nat) : List Nd := timN l m :: rowN row.length :: (row.map letN ++ [endN])
def Mt (row w : List UInt8) (p : Nat) : Prop := (w.drop p).take row.length = row
def Most (row w : List UInt8) (n k : Nat) : Prop := k ≤ n ∧ (∀ j, j < k → Mt row w (j * row.length)) ∧ (k = n ∨ ¬ Mt row w (k * row.length))
theorem u8_ne {x y : UInt8} : decide ((x.toNat : Int) ≠ (y.toNat : Int)) = !decide (x = y) := by
  by_cases h : x = y
  · subst h; simp
  · have : ¬ x.toNat = y.toNat := fun e => h (UInt8.toNat_inj.1 e)
    simp [h]; omega
end Go.HL.Kl.Mc
namespace Go.HL.Kl.Mc
open Go Go.HL Go.HL.Kl AskE
def gl (l : List Nd) : List Nat := (l.filter fun y => decide (y.op = 7)).map fun y => y.n.toNat
def gn (f : F) : List Nat := gl f.flat
def Non (f : F) (cs : List Sp) : Prop := ∀ i ∈ gn f, cs[i]? = some noS
def Nst : F → Int → Int → List Sp → Prop
  | .nil, _, _, _ => True
  | .nd x ks r, lo, hi, cs => (if x.op = 7 then ∃ s, cs[x.n.toNat]? = some s ∧ ((s = noS ∧ Non ks cs) ∨ (lo ≤ s.fr ∧ s.fr ≤ s.to ∧ s.to ≤ hi ∧ Nst ks s.fr s.to cs)) else Nst ks lo hi cs) ∧ Nst r lo hi cs
def catC : Nd := ⟨4, 0, 0, 0, 0, 2⟩
def grpC : Nd := ⟨7, 0, 1, 0, 0, 1⟩
def reC : List Nd := [catC, grpC, starN, letN 97, letN 98]
def ksG : F := .nd starN ksW .nil
def ksB : F := .nd (letN 98) .nil .nil
def ksC : F := .nd grpC ksG ksB
def wC : List UInt8 := [99, 97, 97, 98]
end Go.HL.Kl.Mc
namespace Go.HL.Kl.Mc
open Go Go.HL Go.HL.Kl
section
variable {P : Program} {κ : Cx} {L : Loc} {H : Hp} {ty t t' : TypeId} {x y : Operand}
end
end Go.HL.Kl.Mc
namespace Go.HL.Kl.Mc
open Go Go.HL Go.HL.Kl AskE
structure WalkE where
  (bW : Nat)
  (ra : Option Addr) (rc : Nat) (re : List Nd) (ta : Option Addr) (tc : Nat) (tx : List UInt8) (ca : Option Addr) (N cc : Nat)
namespace WalkE
abbrev vre (K : WalkE) : Value := .slice K.ra K.re.length K.rc
abbrev vtx (K : WalkE) : Value := .slice K.ta K.tx.length K.tc
abbrev vca (K : WalkE) : Value := .slice K.ca K.N K.cc
abbrev cells (K : WalkE) : List Value := [K.vre, K.vtx, K.vca]
end WalkE
structure EnvW (w : World) (K : WalkE) (M : List Nat) : Prop where
  p1 : RdP w K.bW 0 K.cells
  d1 : Rd En w K.vre K.re
  d2 : Rd Eb w K.vtx K.tx
  n1 : K.bW ∉ M
  a1 : Apart M K.vre
  a2 : Apart M K.vtx
structure WalkE.ok (K : WalkE) : Prop where
  rng : ∀ x ∈ K.re, -128 ≤ x.op ∧ x.op < 128
  no8 : ∀ x ∈ K.re, ¬ x.op = 8
  len : K.re.length ≤ 1000000
  tx : K.tx.length ≤ 1000000
def BestK (P : Program) (K : WalkE) (fn T : Nat) (x : Nd) (ks : F) : Prop := ∀ (i i1 p q : Nat) (cs : List Sp) (Sc : Hp), Part K.re (.nd x ks .nil) i i1 → p ≤ q → q ≤ K.tx.length → der1 K.tx x ks p q → cs.length = K.N → Slots K.re K.N → OwnS Esp 2 T K.vca cs Sc →
  Fn P fn [pt K.bW, .int .i64 i, .int .i64 p, .int .i64 q] (fun W => EnvW W K (keys Sc)) Sc (fun _ S' => OwnS Esp 2 T K.vca (bst1 K.tx x ks p q cs) S')
def CapR (x : Nd) (r s : Nat) : Prop := r = s ∨ (x.mx = -1 ∧ max x.mn.toNat 1 ≤ r ∧ s = max x.mn.toNat 1)
end Go.HL.Kl.Mc
namespace Go.HL
open Go
end Go.HL
namespace Go.HL.Kl.Mc
open Go Go.HL Go.HL.Kl
def FRes (re : List Nd) (w : List UInt8) (f : Int) (b : Bool) (L : List Sp) : Prop :=
  (∃ x ks, ∃ g p q : Nat, May re w x ks ∧ f = g ∧ Lft w x ks g p q ∧ b = true ∧ L = capsV w re x ks p q) ∨
  ((¬ ∃ x ks, ∃ g p q : Nat, May re w x ks ∧ f = g ∧ g ≤ p ∧ q ≤ w.length ∧ der1 w x ks p q) ∧ b = false ∧ L = [])
def BRes (re : List Nd) (w : List UInt8) (fr to : Int) (b : Bool) (L : List Sp) : Prop :=
  (∃ x ks, ∃ p q : Nat, May re w x ks ∧ fr = p ∧ to = q ∧ p ≤ q ∧ q ≤ w.length ∧ der1 w x ks p q ∧ b = true ∧ L = capsV w re x ks p q) ∨
  ((¬ ∃ x ks, ∃ p q : Nat, May re w x ks ∧ fr = p ∧ to = q ∧ p ≤ q ∧ q ≤ w.length ∧ der1 w x ks p q) ∧ b = false ∧ L = [])
def spB (j : Nat) : UInt8 := UInt8.ofNat (279 + 7 * j + 3)
def xor3 (x : UInt8) : UInt8 := UInt8.ofNat (BitVec.ofInt 8 (x.toNat : Int) ^^^ BitVec.ofInt 8 3).toNat
end Go.HL.Kl.Mc
namespace Go.Proofs.YtmompllplidphaaGreatDoor
open Go Go.HL Go.Proofs Go.HL.Kl Go.HL.Kl.Mc Go.Tab
theorem eqBytes_fn (a a2 : Option Addr) (c c2 : Nat) (xs ys : List UInt8) : HL.Fn Tryz.prog 22 [.slice a xs.length c, .slice a2 ys.length c2] (fun w => Rd Eb w (.slice a xs.length c) xs ∧ Rd Eb w (.slice a2 ys.length c2) ys) [] (fun v _ => v = .bool (decide (xs = ys))) := by
  refine fn_of Tryz.func22 rfl rfl rfl fun w0 hw => ?_
  obtain ⟨hx, hy⟩ := hw
  have hsx := hx.sl
  have hsy := hy.sl
  have hbx := hsx.le
  have hby := hsy.le
  refine cR fun _ hK1 => ?_; refine oA (oZ hK1 (c_seq fun _ hK2 => ?_)); refine cR fun _ hK3 => ?_; refine oM ?_; refine oS sC (oM ?_); refine oS sC ?_; refine oS (s_neq rfl rfl) ?_; refine oZ hK3 ?_; refine c_if rfl (fun hl => ?_) (fun hl => ?_)
  ·refine cR fun _ hK4 => ?_; refine oA (oZ hK4 (c_ret ?_)); refine x_then_ret (?_); exact xR rfl rfl ((congrArg Value.bool (decide_eq_false (by intro e; subst e; omega)).symm))
  ·refine c_skip (xZ hK2 (c_seq fun _ hK5 => ?_)); refine cR fun _ hK6 => ?_; refine oA (oZ hK6 (c_block ?_))
   -- not carried: 4
   refine c_loopB (fun (j : Nat) => j ≤ xs.length ∧ ∀ i, i < j → xs[i]? = ys[i]?) (fun (j : Nat) => [(5, .int .i64 j)]) [(0, _), (1, _)] (fun (j : Nat) => _) (fun (j : Nat) => xs.length - j) 0 ⟨by omega, fun i hi => by omega⟩ sbA sbA hzB ?_
   rintro j ⟨hj, hjt⟩
   refine c_seq fun _ hK7 => ?_; refine cR fun _ hK8 => ?_; refine oM (oM ?_); refine oS sC ?_; refine oS (s_lss rfl rfl) ?_; refine oZ hK8 ?_; refine c_if rfl (fun hlt => ?_) (fun hlt => ?_)
   ·obtain ⟨x, hxj⟩ : ∃ x, xs[j]? = some x := gE
    obtain ⟨y, hyj⟩ : ∃ y, ys[j]? = some y := gE
    refine c_skip (xZ hK7 (c_seq fun _ hK9 => ?_)); refine c_block (c_seq fun _ hK10 => ?_); refine c_drawE ([]) (fun i => false) ?_; refine e_tk 0 rfl (by exact HSub.nil) sM ?_; refine e_tk 1 rfl (by exact HSub.nil) sM ?_; refine e_tk 2 rfl (by exact HSub.nil) (s_idx rfl rfl hsx (by omega)) ?_; refine e_tk 3 rfl (by exact HSub.nil) (s_ld rfl ((RdK.old0 hx).ld j 0 hxj rfl (by decide) (by omega))) ?_; refine e_tk 4 rfl (by exact HSub.nil) sM ?_; refine e_tk 5 rfl (by exact HSub.nil) sM ?_; refine e_tk 6 rfl (by exact HSub.nil) (s_idx rfl rfl hsy (by omega)) ?_; refine e_tk 7 rfl (by exact HSub.nil) (s_ld rfl ((RdK.old0 hy).ld j 0 hyj rfl (by decide) (by omega))) ?_; refine e_tk 8 rfl (by exact HSub.nil) (step_cast (v' := .bool (!decide (x = y))) (s_neq rfl rfl) (congrArg Value.bool u8_ne)) ?_; refine eZ hK10 ?_; refine c_ifn rfl (fun hne => ?_) (fun hne => ?_)
    ·refine cR fun _ hK11 => ?_; refine oA (oZ hK11 (c_ret ?_)); refine x_block_ret (x_then_ret (x_then_ret (x_block_ret (x_then_ret (?_)))))
     exact xR rfl rfl ((congrArg Value.bool (decide_eq_false (by intro e; subst e; rw [hxj] at hyj; cases hyj; exact hne rfl)).symm))
    ·refine c_skip (x_block (xZ hK9 (c_region (oM ?_)))); refine oS sD (oA (o_nil ?_)); exact xI (j + 1) ⟨by omega, fun i hi => by rcases Nat.lt_or_ge i j with h | h; exact hjt i h; rw [show i = j by omega, hxj, hyj, hne]⟩
   ·refine c_exit ?_; refine x_then_exit (x_then_exit (x_block_exit (xZ hK5 (cR fun _ hK12 => ?_)))); refine oA (oZ hK12 (c_ret ?_)); refine ?_; exact xR rfl rfl ((congrArg Value.bool (decide_eq_true (ext_upto (by omega) fun i hi => hjt i (by omega))).symm))
end Go.Proofs.YtmompllplidphaaGreatDoor
