/- Part of the proofs over this seat: see the text that holds the theorem. Conditions: each theorem bears its own. -/
import Derived.Test.YtloepfcndglmmaaDoorHTZ
import Derived.Test.YtloepfcndglmmaaDoorBX4Z
import Derived.Test.YtloepfcndglmmaaDoorHlB
import Derived.StillTail
namespace Go.Proofs.YtloepfcndglmmaaDoor
open Go Go.HL Go.Proofs Go.HL.Kl Go.HL.Kl.Mc Go.HL.Kl.Mc.AskE
set_option maxHeartbeats 4000000 in
theorem roundsK_fn (K : BkE) (hK : K.ok) (n : Nat) (s : BkS) (f : Frm) (x : Nd) (at_ : Nat) (b : Bool) (S' : SS) (hR : K.Rep s) (hF : Fin K.sr s.S) (hf1 : FrOk K.sr f) (hx : K.re[f.node]? = some x) (h6 : x.op = 6) (hup : f.up ≤ s.S.fs.length) (hat : at_ ≤ K.w.length) (d2 : Bool) (hE : EvD K.sr s.S s.d (.rnd f at_) b S' d2) (hn : s.S.fuel ≤ n) (hz : Sz S') (hnx : NextB K n f.up) (hTk : TakeB K n) : HL.Fn Tryd.prog 105 [pt K.b, .agg (Efr f).toArray, .int .i64 at_] (fun W => K.Env W (keys ((K.b, .cells [.slice K.ra K.re.length K.rc, .slice K.ta K.w.length K.tc, .slice K.ba K.bl.length K.bc, .slice K.xa K.R.length K.xc, .slice s.fa (zeroF :: s.S.fs).length s.fc, .map (some K.bn), .map (some K.bt), .map (some K.bf), .slice K.sa (K.N + 1) K.sc, .int .i64 (s.S.fuel : Nat), .bool s.d].toArray 103 (0, 0)) :: K.tl s))) ((K.b, .cells [.slice K.ra K.re.length K.rc, .slice K.ta K.w.length K.tc, .slice K.ba K.bl.length K.bc, .slice K.xa K.R.length K.xc, .slice s.fa (zeroF :: s.S.fs).length s.fc, .map (some K.bn), .map (some K.bt), .map (some K.bf), .slice K.sa (K.N + 1) K.sc, .int .i64 (s.S.fuel : Nat), .bool s.d].toArray 103 (0, 0)) :: K.tl s) (AnsB K S' d2 b) := by
  refine fn_of Tryd.func105 rfl rfl rfl fun w0 hw => ?_
  have hwl := hK.wl
  have hrl := hK.len
  have hsl := hw.d1.sl
  have hsb := hw.d3.sl
  have hbll := hK.bl.1
  have hnl := (List.getElem?_eq_some_iff.1 hx).1
  obtain ⟨hto, hk255, y, js, e0, hp0⟩ := fr_op6 hf1 hx h6
  have hto : f.to ≤ K.w.length := hto
  have hp0 : Part K.re (.nd x (.nd y js .nil) .nil) f.node e0 := hp0
  have hkp := hp0.head.2.1
  have hkl := (List.getElem?_eq_some_iff.1 hkp.head.1).1
  obtain ⟨hbl, hbh, hble⟩ := hK.beh hp0
  have hxok : ndOk x = true := hp0.wf.1
  have hmn := (flds_iff.1 (by simp only [ndOk, Bool.and_eq_true] at hxok; exact hxok.1)).2.2.2.1 h6
  refine cR fun _ hK1 => ?_; refine o_box rfl rfl rfl fun b4 => ?_; refine oA (oZ hK1 (c_seq fun _ hK2 => ?_)); refine c_drawE ((b4, .cells (Efr f).toArray 134 (0, 0)) :: ((K.b, .cells [.slice K.ra K.re.length K.rc, .slice K.ta K.w.length K.tc, .slice K.ba K.bl.length K.bc, .slice K.xa K.R.length K.xc, .slice s.fa (zeroF :: s.S.fs).length s.fc, .map (some K.bn), .map (some K.bt), .map (some K.bf), .slice K.sa (K.N + 1) K.sc, .int .i64 (s.S.fuel : Nat), .bool s.d].toArray 103 (0, 0)) :: K.tl s)) (fun i => Nat.beq i 9) ?_; refine eP 0 rfl sM ?_; refine eP 1 rfl sN ?_; refine eP 2 rfl sF ?_; refine eK 3 rfl sL ?_; refine eP 4 rfl sF ?_; refine eK 5 rfl sL ?_; refine eK 6 rfl (s_idx rfl rfl hsl (by omega)) ?_; refine eK 7 rfl (s_ldB rfl ((RdK.old hw.d1 hw.a1).lds f.node hx rfl) (by rfl)) ?_; refine eO 8 rfl ?_; refine o_alloc (l := En zN) (by rw [En_zero]; rfl) rfl fun b7 => ?_; refine oX (eO 9 rfl ?_); refine o_stW rfl rfl upA lnA lnA onA ?_; refine o_nil ?_; refine x_oneL rfl ?_; refine eZ hK2 (cR fun _ hK3 => ?_); refine oS (s_ldB rfl (RdPK.cels (.own meA)) lnA) ?_; refine o_alloc rfl rfl fun b8 => ?_; refine o_stW rfl rfl upA lnA lnA onA ?_; refine oZ hK3 ?_; refine c_seqJ (ι := Nat) (fun kk => kk = satK x f.kid) (fun kk => []) [(0, _), (2, _), (4, _), (6, _), (7, _), (8, _)] (fun kk => (b8, .cells (Efr ({ f with kid := kk } : Frm)).toArray 134 (0, 0)) :: (b7, .cells (En x).toArray 80 (0, 0)) :: (b4, .cells (Efr f).toArray 134 (0, 0)) :: ((K.b, .cells [.slice K.ra K.re.length K.rc, .slice K.ta K.w.length K.tc, .slice K.ba K.bl.length K.bc, .slice K.xa K.R.length K.xc, .slice s.fa (zeroF :: s.S.fs).length s.fc, .map (some K.bn), .map (some K.bt), .map (some K.bf), .slice K.sa (K.N + 1) K.sc, .int .i64 (s.S.fuel : Nat), .bool s.d].toArray 103 (0, 0)) :: K.tl s)) sbA ?_ ?_
  ·rintro kk rfl
   refine c_seqJ (ι := BkS) (fun q => K.Rep q ∧ Fin K.sr q.S ∧ q.S.fuel ≤ n ∧ f.up ≤ q.S.fs.length ∧ (((at_ = f.to ∧ x.mn ≤ (f.kid : Int)) ∧ EvD K.sr q.S q.d (.next f.up at_) b S' d2) ∨ (¬ (at_ = f.to ∧ x.mn ≤ (f.kid : Int)) ∧ b = false ∧ S' = q.S ∧ d2 = q.d))) (fun q => []) [(0, _), (2, _), (4, _), (7, _)] (fun q => (b7, .cells (En x).toArray 80 (0, 0)) :: (b4, .cells (Efr f).toArray 134 (0, 0)) :: ((K.b, .cells [.slice K.ra K.re.length K.rc, .slice K.ta K.w.length K.tc, .slice K.ba K.bl.length K.bc, .slice K.xa K.R.length K.xc, .slice q.fa (zeroF :: q.S.fs).length q.fc, .map (some K.bn), .map (some K.bt), .map (some K.bf), .slice K.sa (K.N + 1) K.sc, .int .i64 (q.S.fuel : Nat), .bool q.d].toArray 103 (0, 0)) :: K.tl q)) sbA ?_ ?_
   ·rintro q ⟨hRq, hFq, hnq, hupq, hJ⟩
    refine cR fun _ hK6 => ?_; refine oM ?_; refine oS sF ?_; refine oS sF ?_; refine oS sL ?_
    by_cases het : (at_ : Int) = f.to
    ·refine oS eqT (oM ?_); refine oY ?_; refine oS sF ?_; refine oY ?_; refine oS sL ?_; refine oY ?_; refine oS sF ?_; refine oY ?_; refine oS sL ?_; refine oY ?_
     by_cases hkn : (f.kid : Int) ≥ x.mn
     ·have hE2 := (hJ.resolve_right fun h => h.1 ⟨by omega, hkn⟩).2
      refine oS (geT (h := hkn)) ?_; refine oS sT (oM ?_); refine oY (oM ?_); refine oY ?_; refine oS sF ?_; refine oY ?_; refine oS sL ?_; refine oY (oM ?_); refine oY ?_; refine o_call (hnx q at_ b S' d2 hRq hFq hupq hat hE2 hnq hz) rfl rfl rfl pkA (fun w st => hw.out st (hin_cons meA (hin_cons meA (hin_cons meA (hin_cons meA (hin_app hiA hiA)))))) (fun v119 S119 ⟨s2, hv119, hS119, hR2, hF2, he2, hd2⟩ => ?_); subst hv119
      subst hS119; refine oS sT (oA (oZ hK6 (c_ret ?_))); refine ?_; refine x_sub (Sub.refl _) (H' := ((K.b, .cells [.slice K.ra K.re.length K.rc, .slice K.ta K.w.length K.tc, .slice K.ba K.bl.length K.bc, .slice K.xa K.R.length K.xc, .slice s2.fa (zeroF :: s2.S.fs).length s2.fc, .map (some K.bn), .map (some K.bt), .map (some K.bf), .slice K.sa (K.N + 1) K.sc, .int .i64 (s2.S.fuel : Nat), .bool s2.d].toArray 103 (0, 0)) :: K.tl s2)) hzB ?_; exact xR rfl rfl (⟨s2, rfl, rfl, hR2, hF2, he2, hd2⟩)
     ·obtain ⟨_, rfl, rfl, rfl⟩ := hJ.resolve_left fun h => hkn h.1.2
      refine oS (geF (h := hkn)) ?_; refine oS sT (oM ?_); refine oN ?_; refine oN ?_; refine oN ?_; refine oN ?_; refine oN ?_; refine oS sP (oA (oZ hK6 (c_ret ?_))); refine ?_; refine x_sub (Sub.refl _) (H' := ((K.b, .cells [.slice K.ra K.re.length K.rc, .slice K.ta K.w.length K.tc, .slice K.ba K.bl.length K.bc, .slice K.xa K.R.length K.xc, .slice q.fa (zeroF :: q.S.fs).length q.fc, .map (some K.bn), .map (some K.bt), .map (some K.bf), .slice K.sa (K.N + 1) K.sc, .int .i64 (q.S.fuel : Nat), .bool q.d].toArray 103 (0, 0)) :: K.tl q)) hzB ?_
      exact xR rfl rfl (⟨q, rfl, rfl, hRq, hFq, rfl, rfl⟩)
    ·obtain ⟨_, rfl, rfl, rfl⟩ := hJ.resolve_left fun h => het (by omega)
     refine oS eqF (oM ?_); refine oN ?_; refine oN ?_; refine oN ?_; refine oN ?_; refine oN ?_; refine oS sP (oM ?_); refine oN ?_; refine oN ?_; refine oN ?_; refine oN ?_; refine oN ?_; refine oS sP (oA (oZ hK6 (c_ret ?_))); refine ?_; refine x_sub (Sub.refl _) (H' := ((K.b, .cells [.slice K.ra K.re.length K.rc, .slice K.ta K.w.length K.tc, .slice K.ba K.bl.length K.bc, .slice K.xa K.R.length K.xc, .slice q.fa (zeroF :: q.S.fs).length q.fc, .map (some K.bn), .map (some K.bt), .map (some K.bf), .slice K.sa (K.N + 1) K.sc, .int .i64 (q.S.fuel : Nat), .bool q.d].toArray 103 (0, 0)) :: K.tl q)) hzB ?_
     exact xR rfl rfl (⟨q, rfl, rfl, hRq, hFq, rfl, rfl⟩)
   ·intro _ hJ5
    refine c_seqJ (ι := Bool) (fun tb => tb = decide (x.mx < 0 ∨ (f.kid : Int) < x.mx)) (fun tb => [(45, .bool tb)]) [(0, _), (2, _), (4, _), (6, _), (7, _), (8, _)] (fun tb => (b8, .cells (Efr ({ f with kid := satK x f.kid } : Frm)).toArray 134 (0, 0)) :: (b7, .cells (En x).toArray 80 (0, 0)) :: (b4, .cells (Efr f).toArray 134 (0, 0)) :: ((K.b, .cells [.slice K.ra K.re.length K.rc, .slice K.ta K.w.length K.tc, .slice K.ba K.bl.length K.bc, .slice K.xa K.R.length K.xc, .slice s.fa (zeroF :: s.S.fs).length s.fc, .map (some K.bn), .map (some K.bt), .map (some K.bf), .slice K.sa (K.N + 1) K.sc, .int .i64 (s.S.fuel : Nat), .bool s.d].toArray 103 (0, 0)) :: K.tl s)) sbA ?_ ?_
    ·rintro tb rfl
     refine c_if rfl (fun hm => ?_) (fun hm => ?_)
     ·obtain ⟨u, S1, b1, S2, d1, hp, hL, hc⟩ := hE.iRnd hx hm
      have hz2 : Sz S2 := by rcases hc with ⟨_, _, h, _⟩ | ⟨_, _, h⟩ | ⟨_, _, _, h, _⟩ <;> first | (rw [← h]; exact hz) | exact hz.gr h.mono
      have hz1 := hz2.gr hL.mono
      have hpg := push_gr hp
      have hpg1 := hpg.fuel
      have hpg2 := hpg.fs
      have hfn : FrOk K.sr ({ f with kid := satK x f.kid } : Frm) := ⟨x, .nd y js .nil, e0, hp0, hto, .inr (.inl ⟨h6, by show satK x f.kid ≤ 255; unfold satK; split <;> omega⟩)⟩
      refine c_scope ?_; refine cR fun _ hK8 => ?_; refine oM ?_; refine oS (s_ldB rfl (RdPK.cels (.own meA)) lnA) ?_; refine o_call (pushB_fn K s hR hF ({ f with kid := satK x f.kid } : Frm) hfn hup u S1 hp hz1) rfl rfl rfl pkA (fun _ _ => trivial) (fun v48 S48 ⟨s1, hv48, hS48, hR1, hF1, he1, hu1, hu2, hds⟩ => ?_); subst hv48
      rw [← hds] at hL
      subst hS48; refine oA (oZ hK8 (c_seq fun _ hK9 => ?_)); refine c_quiet (by kernel_rfl) ?_; refine .op rfl (s_move rfl) ?_; refine .op rfl (s_nil rfl) ?_; refine .op rfl (s_field rfl rfl (by decide)) ?_; refine .op rfl (s_ld rfl (.own meA rfl)) ?_; refine .op rfl (s_field rfl rfl (by decide)) ?_; refine .op rfl (s_ld rfl (.own meA rfl)) ?_; refine .op rfl (s_idx rfl rfl hsb (by omega)) ?_; refine .op rfl (s_ld rfl ((RdK.old hw.d3 hw.a3).ld f.node 0 hbl rfl (by decide) (by omega))) ?_; refine .op rfl (s_assign rfl) ?_; refine .nil ?_; refine xZ hK9 (c_seq fun _ hK10 => ?_); refine c_label ?_; refine xZ hK10 (cR fun _ hK11 => ?_); refine oS sF ?_; refine oS sF ?_; refine oS sL (oA (oZ hK11 (c_block ?_)))
      -- not carried: 6
      refine c_loop2 (fun (q : BkS) (e : Int) => K.Rep q ∧ Fin K.sr q.S ∧ EvD K.sr q.S q.d (.rndL f u at_ (dwn at_ e)) b1 S2 d1 ∧ q.S.fuel ≤ n ∧ u ≤ q.S.fs.length ∧ f.up ≤ q.S.fs.length ∧ e ≤ f.to ∧ -1 ≤ e) (fun (q : BkS) (e : Int) => [(11, .int .i64 e)]) [(0, _), (2, _), (4, _), (7, _), (9, _), (10, _)] (fun (q : BkS) (e : Int) => (b8, .cells (Efr ({ f with kid := satK x f.kid } : Frm)).toArray 134 (0, 0)) :: (b7, .cells (En x).toArray 80 (0, 0)) :: (b4, .cells (Efr f).toArray 134 (0, 0)) :: ((K.b, .cells [.slice K.ra K.re.length K.rc, .slice K.ta K.w.length K.tc, .slice K.ba K.bl.length K.bc, .slice K.xa K.R.length K.xc, .slice q.fa (zeroF :: q.S.fs).length q.fc, .map (some K.bn), .map (some K.bt), .map (some K.bf), .slice K.sa (K.N + 1) K.sc, .int .i64 (q.S.fuel : Nat), .bool q.d].toArray 103 (0, 0)) :: K.tl q)) (fun (q : BkS) (e : Int) => (e + 1).toNat) s1 f.to ⟨hR1, hF1, by rw [he1, dwn_ends]; exact hL, by rw [he1]; omega, hu2, by rw [he1]; omega, by omega, by omega⟩ sbA sbA hzB ?_
      rintro q e ⟨hRq, hFq, hEl, hnq, huq, hupq, hel, hel1⟩
      refine c_seq fun _ hK12 => ?_; refine cR fun _ hK13 => ?_; refine oM (oM ?_)
      by_cases hee : e ≥ (at_ : Int)
      ·obtain ⟨e, rfl⟩ : ∃ m : Nat, e = (m : Int) := ⟨e.toNat, by omega⟩
       rw [dwn_cons (by omega)] at hEl
       refine oS geT (oZ hK13 ?_); refine cTZ hK12 (c_seq fun _ hK14 => ?_); refine c_block ?_; refine c_seqJ (ι := Unit) (fun g => ¬ brk x f at_ e) (fun g => []) [(0, _), (2, _), (4, _), (7, _), (9, _), (10, _), (11, _), (60, _), (61, _), (62, _)] (fun g => (b8, .cells (Efr ({ f with kid := satK x f.kid } : Frm)).toArray 134 (0, 0)) :: (b7, .cells (En x).toArray 80 (0, 0)) :: (b4, .cells (Efr f).toArray 134 (0, 0)) :: ((K.b, .cells [.slice K.ra K.re.length K.rc, .slice K.ta K.w.length K.tc, .slice K.ba K.bl.length K.bc, .slice K.xa K.R.length K.xc, .slice q.fa (zeroF :: q.S.fs).length q.fc, .map (some K.bn), .map (some K.bt), .map (some K.bf), .slice K.sa (K.N + 1) K.sc, .int .i64 (q.S.fuel : Nat), .bool q.d].toArray 103 (0, 0)) :: K.tl q)) sbA ?_ ?_
       ·rintro g hnb
        obtain ⟨_, b2, S3, d3, hT, hc2⟩ := (hEl.iRndL hx).resolve_left fun h => hnb h.1
        rw [hbh] at hT hc2
        have hz3 : Sz S3 := by rcases hc2 with ⟨_, _, h, _⟩ | ⟨_, h⟩ <;> first | (rw [← h]; exact hz2) | (have := hz2.gr h.mono; exact ⟨this.1, this.2⟩)
        have hTm := hT.mono
        have hT1 := hTm.fuel
        have hT2 := hTm.fs
        refine cR fun _ hK16 => ?_; refine oM ?_; refine oS sF ?_; refine oS sL ?_; refine oS (step_cast (v' := .int .i64 (((f.node + 1) : Nat) : Int)) (s_add rfl rfl (by omega)) (congrArg _ (by omega))) ?_; refine oM ?_; refine o_call (emptiedB_fn K q hrl hRq.sp hRq.cl hK.N hK.g7 (f.node + 1) (f.node + 1 + (F.nd y js .nil).size) (by omega) hble) rfl rfl rfl ((Pick.takeC pkA pkA)) (fun w st => hw.out st (hin_cons meA hiA)) (fun v85 S85 ⟨la, lc, Sl, Ss85, hv85, hS85, hOl, hO85⟩ => ?_); subst hv85
        subst hS85; refine oA (oZ hK16 (c_seq fun _ hK17 => ?_)); refine cR fun _ hK18 => ?_; refine oM ?_; refine oS sF ?_; refine oS sL ?_; refine oS (step_cast (v' := .int .i64 (((f.node + 1) : Nat) : Int)) (s_add rfl rfl (by omega)) (congrArg _ (by omega))) ?_; refine oM (oM ?_); refine oS (s_build (cs := [_, _]) (vs := [_, _]) rfl rfl (.cons rfl rfl rfl rfl rfl (.cons rfl rfl rfl rfl rfl (.nil)))) ?_; refine oM ?_; refine o_call (hTk ({ q with S := { q.S with cs := fgt (K.sr.inn (f.node + 1) (f.node + 1 + (F.nd y js .nil).size)) q.S.cs }, Ss := Ss85 } : BkS) (f.node + 1) at_ e u b2 S3 d3 ⟨hRq.fr, hO85, by dsimp only; rw [fgt_len]; exact hRq.cl, hRq.en, hRq.et, hRq.el, hRq.ef⟩ (hFq.fgt _) hkl (by omega) (by omega) (by dsimp only; omega) hT (by dsimp only; omega) hz3) rfl rfl rfl ((Pick.takeC pkA (Pick.takeC pkA (Pick.takeC pkA (Pick.takeC pkA pkA))))) (fun w st => hw.out st (hin_cons meA (hin_cons meA (hin_cons meA (hin_cons meA (hin_app hiA hiA)))))) (fun v94 S94 ⟨s2, hv94, hS94, hR2, hF2, he2, hd2⟩ => ?_)
        subst hv94; subst hS94
        cases b2
        ·subst he2; subst hd2
         have hEl2 := (hc2.resolve_left fun h => (by cases h.1)).2
         refine oZ hK18 ?_; refine cFZ hK17 (c_region (oM ?_)); refine oS sF ?_; refine oS sL ?_; refine oS (step_cast (v' := .int .i64 (((f.node + 1) : Nat) : Int)) (s_add rfl rfl (by omega)) (congrArg _ (by omega))) ?_; refine oM (oM ?_); refine o_call (restoreB_fn K s2 hrl hR2.sp hR2.cl hK.N hK.g7 (f.node + 1) (f.node + 1 + (F.nd y js .nil).size) (by omega) hble la lc (emW (K.sr.inn (f.node + 1) (f.node + 1 + (F.nd y js .nil).size)) q.S.cs) Sl hOl (emW_len _ _)) rfl rfl rfl ((Pick.takeA pkA (Pick.takeC pkA pkA))) (fun w st => hw.out st (hin_app hiA (hin_cons meA hiA))) (fun v101 S101 ⟨Ss101, hS101, hO101⟩ => ?_); subst hS101
         refine o_nil (x_block (xZ hK14 (c_region (oM ?_)))); refine oS sU (oA (o_nil ?_)); exact xI (({ s2 with S := { s2.S with cs := rst (K.sr.inn (f.node + 1) (f.node + 1 + (F.nd y js .nil).size)) (emW (K.sr.inn (f.node + 1) (f.node + 1 + (F.nd y js .nil).size)) q.S.cs) s2.S.cs }, Ss := Ss101 } : BkS), (e : Int) - 1) ⟨⟨hR2.fr, hO101, by dsimp only; rw [rst_len]; exact hR2.cl, hR2.en, hR2.et, hR2.el, hR2.ef⟩, hF2.rst _ (fun z hz1 => emW_ok (.inl rfl) _ _ hFq.sp z hz1), hEl2, by dsimp only at hT1 ⊢; omega, by dsimp only at hT2 ⊢; omega, by dsimp only at hT2 ⊢; omega, by dsimp only; omega, by dsimp only; omega⟩
        ·subst he2; subst hd2
         obtain ⟨rfl, rfl, rfl⟩ := (hc2.resolve_right fun h => (by cases h.1)).2
         obtain ⟨_, rfl, rfl, rfl⟩ := hc.resolve_right fun h => h.elim (fun h => (by cases h.1)) fun h => (by cases h.1)
         refine oZ hK18 ?_; refine cT (cR fun _ hK19 => ?_); refine oA (oZ hK19 (c_ret ?_)); refine x_then_ret (x_block_ret (x_then_ret (x_then_ret (x_block_ret (x_scope_ret (x_then_ret (?_)))))))
         refine x_sub (Sub.refl _) (H' := ((K.b, .cells [.slice K.ra K.re.length K.rc, .slice K.ta K.w.length K.tc, .slice K.ba K.bl.length K.bc, .slice K.xa K.R.length K.xc, .slice s2.fa (zeroF :: s2.S.fs).length s2.fc, .map (some K.bn), .map (some K.bt), .map (some K.bf), .slice K.sa (K.N + 1) K.sc, .int .i64 (s2.S.fuel : Nat), .bool s2.d].toArray 103 (0, 0)) :: K.tl s2)) hzB ?_; exact xR rfl rfl (⟨s2, rfl, rfl, hR2, hF2, rfl, rfl⟩)
       ·intro _ hJ15
        refine cR fun _ hK20 => ?_; refine oM (oM ?_)
        by_cases hea : (e : Int) = at_
        ·refine oS eqT (oM ?_); refine oY ?_; refine oS sF ?_; refine oY ?_; refine oS sL ?_; refine oY ?_; refine oS sF ?_; refine oY ?_; refine oS sL ?_; refine oY ?_
         by_cases hkn : (f.kid : Int) ≥ x.mn
         ·refine oS (geT (h := hkn)) ?_; refine oS sT (oM ?_); refine oY ?_; refine oS sF ?_; refine oY ?_; refine oS sL ?_; refine oY ?_
          by_cases hk0 : (f.kid : Int) > 0
          ·obtain ⟨rfl, rfl, rfl⟩ := ((hEl.iRndL hx).resolve_right fun h => h.1 ⟨by omega, hkn, by omega⟩).2
           have hJ1 := hc.resolve_left fun h => (by cases h.1)
           refine oS (gtT (h := hk0)) ?_; refine oS sT (oZ hK20 ?_); refine cT ?_; refine c_exit ?_; refine x_then_exit ?_; refine x_block_pass rfl ?_; refine x_then_exit (x_then_exit (x_block_exit ?_)); refine x_scope ?_; exact x_then (hJ5 q _ _ ⟨hRq, hFq, hnq, hupq, hJ1.imp (·.2) (·.2)⟩ sbA sbA hzB)
          ·refine oS (gtF (h := hk0)) ?_; refine oS sT (oZ hK20 ?_); refine cF (c_skip ?_); exact x_then (hJ15 () _ _ (fun ⟨h1, h2, h3⟩ => by omega) sbA sbA hzB)
         ·refine oS (geF (h := hkn)) ?_; refine oS sT (oM ?_); refine oN ?_; refine oN ?_; refine oN ?_; refine oS sP (oZ hK20 ?_); refine cF (c_skip ?_); exact x_then (hJ15 () _ _ (fun ⟨h1, h2, h3⟩ => by omega) sbA sbA hzB)
        ·refine oS eqF (oM ?_); refine oN ?_; refine oN ?_; refine oN ?_; refine oN ?_; refine oN ?_; refine oS sP (oM ?_); refine oN ?_; refine oN ?_; refine oN ?_; refine oS sP (oZ hK20 ?_); refine cF (c_skip ?_); exact x_then (hJ15 () _ _ (fun ⟨h1, h2, h3⟩ => by omega) sbA sbA hzB)
      ·rw [dwn_nil hee] at hEl
       obtain ⟨rfl, rfl, rfl⟩ := hEl.iRndL0
       have hJ1 := hc.resolve_left fun h => (by cases h.1)
       refine oS geF (oZ hK13 ?_); refine cF ?_; refine c_exit ?_; refine x_then_exit (x_then_exit (x_block_exit ?_)); refine x_scope ?_; exact x_then (hJ5 q _ _ ⟨hRq, hFq, hnq, hupq, hJ1.imp (·.2) (·.2)⟩ sbA sbA hzB)
     ·have hJ := hE.iRnd0 hx hm
      refine c_skip ?_; exact x_then (hJ5 s _ _ ⟨hR, hF, hn, hup, hJ⟩ sbA sbA hzB)
    ·intro _ hJ7
     refine c_region ?_; refine oS sF ?_; refine oS sL ?_
     by_cases hmx : x.mx < 0
     ·refine oS (lsT (h := hmx)) ?_; refine oM ?_; refine oN ?_; refine oN ?_; refine oN ?_; refine oN ?_; refine oN ?_; refine oS sT (o_nil ?_); exact x_then (hJ7 true _ _ (decide_eq_true (.inl hmx)).symm sbA sbA hzB)
     ·refine oS (lsF (h := hmx)) ?_; refine oM ?_; refine oY ?_; refine oS sF ?_; refine oY ?_; refine oS sL ?_; refine oY ?_; refine oS sF ?_; refine oY ?_; refine oS sL ?_; refine oY ?_
      by_cases hkm : (f.kid : Int) < x.mx
      ·refine oS (lsT (h := hkm)) ?_; refine oS sP (o_nil ?_); exact x_then (hJ7 true _ _ (decide_eq_true (.inr hkm)).symm sbA sbA hzB)
      ·refine oS (lsF (h := hkm)) ?_; refine oS sP (o_nil ?_); exact x_then (hJ7 false _ _ (decide_eq_false (by omega)).symm sbA sbA hzB)
  ·intro _ hJ4
   refine cR fun _ hK21 => ?_; refine oS sF ?_; refine oS sL ?_; refine oS (step_cast (v' := .int .i64 ((f.kid + 1 : Nat) : Int)) (s_add rfl rfl (by omega)) (congrArg _ (by omega))) ?_; refine oS sF ?_; refine o_store rfl rfl rfl upA ltA rfl ?_; refine oZ hK21 (cR fun _ hK22 => ?_); refine oS sF ?_; refine oS sL ?_; refine oS (s_lss rfl rfl) ?_; refine oZ hK22 ?_; refine c_if rfl (fun hmx => ?_) (fun hmx => ?_)
   ·refine c_region ?_; refine oS sF ?_; refine oS sL ?_; refine oS sF ?_; refine oS sL ?_; refine oS (s_max rfl rfl) ?_; refine oS (step_cast (v' := .int .i64 ((satK x f.kid : Nat) : Int)) (s_min rfl rfl) (congrArg _ (by unfold satK; rw [if_pos hmx]; omega))) ?_; refine oS sF ?_; refine o_store rfl rfl rfl upA ltA rfl ?_; refine o_nil ?_; exact x_then (hJ4 (satK x f.kid) _ _ rfl sbA sbA hzB)
   ·refine c_skip ?_; exact x_then (hJ4 (f.kid + 1) _ _ (by unfold satK; rw [if_neg hmx]) sbA sbA hzB)
end Go.Proofs.YtloepfcndglmmaaDoor
namespace Go.HL
open Go
section
variable {P : Program} {ro : Option Nat} {ops : Array Oper} {Q : Pst} {md : Region.Mode} {S S0 : World → Prop} {late : Nat → Bool}
def waitsT (md : Region.Mode) (ops : Array Oper) : Nat → Nat → Nat → Bool
  | 0, _, _ => false
  | n + 1, j, i => match ops[j]? with
    | some o => o.after.toList.any fun e => Region.binds md e && (e.on == i || waitsT md ops n e.on i)
    | none => false
def Closed (md : Region.Mode) (ops : Array Oper) (li : Array Bool) : Prop := ∀ j oj, ops[j]? = some oj → li.getD j false = true → ∀ e ∈ oj.after, Region.binds md e = true → li.getD e.on false = true
def closedB (md : Region.Mode) (ops : Array Oper) (li : Array Bool) : Bool := (List.range ops.size).all fun j => !(li.getD j false) || (match ops[j]? with
  | some o => o.after.toList.all fun e => !(Region.binds md e) || li.getD e.on false
  | none => true)
theorem closedB_spec {li : Array Bool} (h : closedB md ops li = true) : Closed md ops li := fun j oj hj hl e he hb => by
  have hlt : j < ops.size := (Array.getElem?_eq_some_iff.1 hj).1
  have h1 := List.all_eq_true.1 h j (List.mem_range.2 hlt)
  rw [hl, hj] at h1
  simp only [Bool.not_true, Bool.false_or] at h1
  have h2 := List.all_eq_true.1 h1 e (by simpa using he)
  rw [hb] at h2
  simpa using h2
def lateTB (md : Region.Mode) (ops : Array Oper) (late : Nat → Bool) (f i : Nat) : Bool := (List.range ops.size).all fun j => !late j || waitsT md ops f j i
theorem lateTB_spec {f i : Nat} (h : lateTB md ops late f i = true) : ∀ j oj, ops[j]? = some oj → late j = true → ∃ f, waitsT md ops f j i = true := fun j oj hj hlj => by
  have hlt : j < ops.size := (Array.getElem?_eq_some_iff.1 hj).1
  have h1 := List.all_eq_true.1 h j (List.mem_range.2 hlt)
  rw [hlj] at h1
  simp only [Bool.not_true, Bool.false_or] at h1
  exact ⟨f, h1⟩
theorem Closed.waits {li : Array Bool} (hcl : Closed md ops li) {i : Nat} : ∀ (f j : Nat), waitsT md ops f j i = true → (∀ o, ops[j]? = some o → ∀ e ∈ o.after, Region.binds md e = true → li.getD e.on false = true) → li.getD i false = true
  | 0, _, h, _ => by cases h
  | f + 1, j, h, hp => by
    unfold waitsT at h
    split at h
    · rename_i o ho
      obtain ⟨e, he, hb⟩ := List.any_eq_true.1 h
      simp only [Bool.and_eq_true, Bool.or_eq_true, beq_iff_eq] at hb
      have hm : e ∈ o.after := by simpa using he
      have h1 := hp o ho e hm hb.1
      rcases hb.2 with h2 | h2
      · rw [← h2]; exact h1
      · exact hcl.waits f e.on h2 fun o' ho' x hx hbx => hcl e.on o' ho' h1 x hx hbx
    · cases h
theorem Closed.set {li : Array Bool} (hcl : Closed md ops li) {j : Nat} (hp : ∀ o, ops[j]? = some o → ∀ e ∈ o.after, Region.binds md e = true → li.getD e.on false = true) : Closed md ops (li.setIfInBounds j true) := fun k ok hk hl e he hb => by
  by_cases h : j = k
  · subst h; exact getD_set_true (hp ok hk e he hb)
  · rw [getD_set_ne false h] at hl
    exact getD_set_true (hcl k ok hk hl e he hb)
theorem wpL_firstT {i : Nat} {o : Oper} {v : Value} (hi : ops[i]? = some o) (hsel : ∀ (j : Nat) (o : Oper) cs b, ops[j]? = some o → o.op ≠ .select cs b) (hQ : ∀ c a w, Q (.panic c) (a.put o.dst v) w → Q (.panic c) a w)
    (hl : ∀ j oj, ops[j]? = some oj → late j = true → ∃ f, waitsT md ops f j i = true) :
    ∀ (n : Nat) (li : Array Bool) (a : Act) (w : World),
      (∀ j oj, ops[j]? = some oj → j ≠ i → li.getD j true = false → (∀ e ∈ oj.after, Region.binds md e = true → e.on ≠ i) → o.apart ops oj = true) →
      Closed md ops li → i ∈ Region.ready md ops li → YieldsIf P ops S o v a → S w → S0 w → wpL ro P md ops Q S S0 late n (li.setIfInBounds i true) (a.put o.dst v) w → wpL ro P md ops Q S S0 late (n + 1) li a w := by
  intro n
  induction n with
  | zero =>
    intro li a w _ hcl hr hy hS hS0 h
    refine ⟨fun h0 => absurd (h0 ▸ hr) (by simp), fun j hj => ?_⟩
    by_cases e : j = i
    · subst e; exact yif_op hi hy hS ⟨fun _ h => h, hS0, h⟩
    · have := ready_mono hj e
      rw [h.1] at this; cases this
  | succ n ih =>
    intro li a w hf hcl hr hy hS hS0 h
    refine ⟨fun h0 => absurd (h0 ▸ hr) (by simp), fun j hj => ?_⟩
    by_cases e : j = i
    · subst e; exact yif_op hi hy hS ⟨fun _ h => h, hS0, h⟩
    · have h1 := h.2 j (ready_mono hj e)
      obtain ⟨hu, oj, hoj, hall⟩ := mem_ready.1 hj
      have hno : ∀ x ∈ oj.after, Region.binds md x = true → x.on ≠ i := by
        intro x hx hb he
        have e1 := hall x hx hb
        have e0 := (mem_ready.1 hr).1
        rw [he] at e1
        rcases Nat.lt_or_ge i li.size with hs | hs
        · simp [hs] at e0 e1; rw [e0] at e1; cases e1
        · simp [Array.getElem?_eq_none hs] at e1
      have hlate : late j = false := by
        cases hj' : late j
        · rfl
        · obtain ⟨f, hwt⟩ := hl j oj hoj hj'
          have h9 := hcl.waits f j hwt fun o' ho' x hx hb => by rw [hoj] at ho'; cases ho'; exact hall x hx hb
          rw [getD_both (mem_ready.1 hr).1] at h9; cases h9
      have h2 := wpOpR_putIf hoj (hf j oj hoj e hu hno) (fun cs b => hsel i o cs b hi) (fun cs b => hsel j oj cs b hoj) hQ hy h1
      have hf' : ∀ k ok, ops[k]? = some ok → k ≠ i → (li.setIfInBounds j true).getD k true = false → (∀ x ∈ ok.after, Region.binds md x = true → x.on ≠ i) → o.apart ops ok = true := by
        intro k ok hk hki hun hn
        refine hf k ok hk hki ?_ hn
        by_cases ejk : j = k
        · subst ejk; exact hu
        · rwa [getD_set_ne true ejk] at hun
      refine wpOpIn_mono (fun a' w' h3 => ⟨h3.2.1, h3.2.2.1, ih (li.setIfInBounds j true) a' w' hf' (hcl.set fun o' ho' x hx hb => by rw [hoj] at ho'; cases ho'; exact hall x hx hb) (ready_mono hr (Ne.symm e)) h3.1 (h3.2.1 hlate hS) h3.2.2.1 ?_⟩) h2
      rw [Array.setIfInBounds_comm _ _ e]
      exact h3.2.2.2
end
section
variable {P : Program} {κ : Cx} {Q : Pst} {L L' : Loc} {H H' : Hp} {ops : Array Oper} {rest : List Oper} {ty t t' : TypeId} {d : Nat} {pos : String} {af : Array Edge} {v u : Value} {x y z : Operand} {op : Op} {late : Nat → Bool}
theorem e_takeT (i : Nat) {fuel : Nat} {listed : Array Bool} {Hs : Hp} {g : Option (Nat × Bool)} (hi : ops[i]? = some ⟨some d, op, ty, pos, af, g⟩) (hsl : Region.noSelect ops = true) (hfr : Region.free .any ops listed i = true) (hr : (Region.ready .any ops listed).contains i = true)
    (f : Nat) (hcl : closedB .any ops listed = true) (hlt : lateTB .any ops late f i = true) (hg : ∀ a : Act, Fr a κ.n κ.ds L → Region.wanted ⟨some d, op, ty, pos, af, g⟩ (yielded ops a.tmps) = true) (hn : Nat.blt d κ.n = true) (hS : HSub H Hs) (hs : Step P κ op ty L Hs v) (h : E P κ ops Q Hs late fuel (listed.setIfInBounds i true) ((d, v) :: L) H) : E P κ ops Q Hs late (fuel + 1) listed L H := by
  refine ⟨fun ro a w hro ok => ?_⟩
  exact wpL_firstT hi (Region.noSelect_spec hsl) (fun c a w h => h.elim) (lateTB_spec hlt) fuel listed a w (Region.free_spec hi hfr) (closedB_spec hcl) (by simpa using hr)
    (.inl ⟨hg a ok.fr, fun w' st => hs.out a.eval w' _ _ _ _ (fun x u hu => ok.fr.ev hu) st⟩) (ok.st.sub hS) (ok.st.sub HSub.nil) (h.out ro _ _ hro ⟨ok.fr.put hn v, ok.st⟩)
end
end Go.HL
