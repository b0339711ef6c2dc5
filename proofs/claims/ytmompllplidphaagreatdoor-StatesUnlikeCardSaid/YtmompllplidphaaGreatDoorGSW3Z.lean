/- Part of the proofs over this seat: see the text that holds the theorem. Conditions: each theorem bears its own. -/
import Derived.Test.YtmompllplidphaaGreatDoorHTZ
import Derived.Test.YtmompllplidphaaGreatDoorGSW1Z
import Derived.Test.YtmompllplidphaaGreatDoorGSN1Z
import Derived.Test.YtmompllplidphaaGreatDoorMT3Z
import Derived.Test.YtmompllplidphaaGreatDoorHlB
import GoSem.Instr.MapUpdate
import GoSem.Instr.MakeMap
namespace Go.Proofs.YtmompllplidphaaGreatDoor
open Go Go.HL Go.Proofs Go.HL.Kl Go.HL.Kl.Mc Go.HL.Sts
def PlS (bx : Nat) (ra : Option Addr) (rc rn : Nat) (X : Plc) (S : Hp) : Prop := ∃ (sa : Option Addr) (sc : Nat) (fa : Option Addr) (fc : Nat) (Ss Sf : Hp), S = (bx, .cells [.slice ra rn rc, .slice sa X.sets.length sc, .slice fa X.fol.length fc].toArray 86 (0, 0)) :: (Sf ++ Ss) ∧ OwnS Ec 4 39 (.slice sa X.sets.length sc) X.sets Ss ∧ OwnS E3 3 90 (.slice fa X.fol.length fc) X.fol Sf
theorem PlS.cel0 {bx : Nat} {ra : Option Addr} {rc rn : Nat} {X : Plc} {S H : Hp} {κ : Cx} (h : PlS bx ra rc rn X S) (hi : HIn S H) : Cel κ H ⟨bx, 0, none⟩ (.slice ra rn rc) := by
  obtain ⟨sa, sc, fa, fc, Ss, Sf, rfl, _, _⟩ := h
  exact (RdPK.own (hi _ List.mem_cons_self)).cel (j := 0) rfl rfl
theorem joinsS_fn (bx : Nat) (ra : Option Addr) (rc rn : Nat) (X : Plc) (S : Hp) (h : PlS bx ra rc rn X S) (a b : Sp) (hl : X.fol.length ≤ 24) : HL.Fn Tryz.prog 134 [.pointer (some ⟨bx, 0, none⟩), .agg (E3 (a)).toArray, .agg (E3 (b)).toArray] (fun _ => True) S (fun _ S' => PlS bx ra rc rn (X.join a b) S') := by
  obtain ⟨sa, sc, fa, fc, Ss, Sf, rfl, hs, hf⟩ := h
  refine ((joins_fn bx ra rc rn sa sc X.sets.length fa fc X.fol Sf hf a b hl).frame (R := Ss)).weaken (fun _ h => h) fun v S' ⟨S1, h1, Sf', h2, h3⟩ => ?_; subst h2
  exact ⟨sa, sc, fa, fc, Ss, Sf', h1, hs, h3⟩
theorem catS_fn (bx : Nat) (ra : Option Addr) (rc rn : Nat) (X : Plc) (S : Hp) (h : PlS bx ra rc rn X S) (a b : Pt) (hl : X.fol.length ≤ 24) : HL.Fn Tryz.prog 99 [.pointer (some ⟨bx, 0, none⟩), .agg (Ep4 (a)).toArray, .agg (Ep4 (b)).toArray] (fun _ => True) S (fun v S' => v = .agg (Ep4 (catP a b)).toArray ∧ PlS bx ra rc rn (X.join a.l0 b.f0) S') := by
  obtain ⟨sa, sc, fa, fc, Ss, Sf, rfl, hs, hf⟩ := h
  refine ((cat_fn bx ra rc rn sa sc X.sets.length fa fc X.fol Sf hf a b hl).frame (R := Ss)).weaken (fun _ h => h) fun v S' ⟨S1, h1, hv, Sf', h2, h3⟩ => ?_; subst h2
  exact ⟨hv, sa, sc, fa, fc, Ss, Sf', h1, hs, h3⟩
def PartC (P : Program) (n : Nd) (ks : F) : Prop := ∀ (bx : Nat) (ra : Option Addr) (rc : Nat) (re : List Nd) (i i' : Nat) (X : Plc) (S : Hp), PlS bx ra rc re.length X S → Part re (.nd n ks .nil) i i' → shapedB re = true → (∀ x ∈ re, -128 ≤ x.op ∧ x.op < 128) → X.sets.length + cnt1 n ks ≤ 20 → X.fol.length = X.sets.length →
  HL.Fn P 39 [.pointer (some ⟨bx, 0, none⟩), .int .i64 i] (fun w => Rd En w (.slice ra re.length rc) re ∧ Apart (keys S) (.slice ra re.length rc)) S (fun v S' => v = .agg (Ep4 ((partM n ks X).1)).toArray ∧ PlS bx ra rc re.length (partM n ks X).2 S')
theorem behind_fn (ra : Option Addr) (rc : Nat) (re : List Nd) (hre : ∀ x ∈ re, -128 ≤ x.op ∧ x.op < 128) (hsb : shapedB re = true) (x : Nd) (ks : F) (i i1 : Nat) (hp : Part re (.nd x ks .nil) i i1) : HL.Fn Tryz.prog 100 [.slice ra re.length rc, .int .i64 i] (fun w => Rd En w (.slice ra re.length rc) re) [] (fun v _ => v = .int .i64 i1) := by
  refine fn_of Tryz.func100 rfl rfl rfl fun w0 hw => ?_
  have hil := (List.getElem?_eq_some_iff.1 hp.head.1).1
  have hsl := hw.sl
  have hbl := hsl.le
  refine cR fun _ hK1 => ?_; refine oA (oZ hK1 (c_seq fun _ hK2 => ?_)); refine cR fun _ hK3 => ?_; refine oM ?_; refine o_callP (shaped_fn ra rc re hre) rfl rfl rfl (fun _ st => (RdK.old0 hw).out _ st) (fun v8 hv8 => ?_)
  rw [hsb] at hv8
  subst hv8; refine oS (s_not rfl) ?_; refine oM ?_; refine oY (oM ?_); refine oY ?_; refine oS (s_lss_f rfl rfl (by omega)) ?_; refine oS sP (oM ?_); refine oY (oM ?_); refine oY (oM ?_); refine oY ?_; refine oS sC ?_; refine oY ?_; refine oS (s_geq_f rfl rfl (by omega)) ?_; refine oS sP (oZ hK3 ?_); refine cFZ hK2 (cR fun _ hK4 => ?_); refine oM (oM ?_); refine o_callP (weigh_fn (ks.size + 1) x ks (Nat.lt_succ_self _) ra rc re i i1 hre hp) rfl rfl rfl (fun _ st => (RdK.old0 hw).out _ st) (fun v23 hv23 => ?_)
  subst hv23; refine oM ?_; refine oS sE ?_; refine oS sE (oA (oA (oZ hK4 (cR fun _ hK5 => ?_)))); refine oM (oA (oZ hK5 (c_ret ?_))); refine ?_; exact xR rfl rfl (rfl)
set_option maxHeartbeats 1000000 in
theorem repO_fn (y : Nd) (js : F) (ih : PartC Tryz.prog y js) (hwf : (F.nd y js .nil).wf) (bx : Nat) (ra : Option Addr) (rc : Nat) (re : List Nd) (i i1 : Nat) (X : Plc) (S : Hp) (hP : PlS bx ra rc re.length X S) (hp : Part re (.nd y js .nil) i i1) (hsb : shapedB re = true) (hre : ∀ x ∈ re, -128 ≤ x.op ∧ x.op < 128) (mn : Nat) (mx : Int) (hmn : mn ≤ 255) (hmx : mx = -1 ∨ ((mn : Int) ≤ mx ∧ mx ≤ 255)) (hc : X.sets.length + (if mx < 0 then mn + 1 else mx.toNat) * cnt1 y js ≤ 20) (hxl : X.fol.length = X.sets.length) : HL.Fn Tryz.prog 97 [.pointer (some ⟨bx, 0, none⟩), .int .i64 i, .int .i64 mn, .int .i64 mx] (fun w => Rd En w (.slice ra re.length rc) re ∧ Apart (keys S) (.slice ra re.length rc)) S (fun v S' => ∃ S2, HSub S' S2 ∧ v = .agg (Ep4 ((repM (partM y js) mn mx X).1)).toArray ∧ PlS bx ra rc re.length (repM (partM y js) mn mx X).2 S2) := by
  refine fn_of Tryz.func97 rfl rfl rfl fun w0 hw => ?_
  have hA := part_adds hwf
  have hL := iter_len hA X hxl
  have hmk : ∀ k, k ≤ mn → k * cnt1 y js ≤ mn * cnt1 y js := fun k hk => Nat.mul_le_mul_right _ hk
  have hmc : mn * cnt1 y js ≤ (if mx < 0 then mn + 1 else mx.toNat) * cnt1 y js := Nat.mul_le_mul_right _ (by split <;> omega)
  refine cR fun _ hK1 => ?_; refine o_alloc (l := Ep4 zeroP) (by rfl) rfl fun b8 => ?_; refine oZ hK1 (cR fun _ hK2 => ?_); refine o_callP (nothing_fn) rfl rfl rfl (fun _ _ => trivial) (fun v12 hv12 => ?_); subst hv12
  refine o_alloc (l := Ep4 zeroP) (by rfl) rfl fun b9 => ?_; refine o_stW rfl rfl upA lnA lnA onA ?_; refine oZ hK2 (c_seq fun _ hK3 => ?_); refine cR fun _ hK4 => ?_; refine oM (oM (oZ hK4 (c_block ?_))); refine c_loop2 (fun (k : Nat) (Sk : Hp) => k ≤ mn ∧ PlS bx ra rc re.length (iterM (fun c => catM c (partM y js)) k nothP X).2 Sk) (fun (k : Nat) (Sk : Hp) => [(14, .int .i64 k)]) [(0, _), (1, _), (2, _), (3, _), (8, _), (9, _), (13, _)] (fun (k : Nat) (Sk : Hp) => (b9, .cells (Ep4 ((iterM (fun c => catM c (partM y js)) k nothP X).1)).toArray 93 (0, 0)) :: (b8, .cells (Ep4 zeroP).toArray 93 (0, 0)) :: Sk) (fun (k : Nat) (Sk : Hp) => mn - k) 0 S ⟨Nat.zero_le _, hP⟩ sbA sbA hzB ?_
  rintro k Sk ⟨hk, hPk⟩
  obtain ⟨hl1, hl2⟩ := hL k
  have hmk1 := hmk k hk
  refine cR fun _ hK5 => ?_; refine oS (s_lss rfl rfl) ?_; refine oZ hK5 (c_seq fun _ hK6 => ?_); refine c_if rfl (fun hlt => ?_) (fun hlt => ?_)
  ·have hmk2 := hmk (k + 1) (by omega)
   rw [Nat.succ_mul] at hmk2
   refine c_skip (xZ hK6 (c_seq fun _ hK7 => ?_)); refine c_block ?_; refine c_drawE ([(b9, .cells (Ep4 ((iterM (fun c => catM c (partM y js)) k nothP X).1)).toArray 93 (0, 0))]) (fun i => Nat.beq i 6) ?_; refine eP 0 rfl sM ?_; refine eK 1 rfl (s_ldB rfl (RdPK.cels (.own meA)) lnA) ?_; refine eP 2 rfl sM ?_; refine eP 3 rfl sM (eO 4 rfl ?_); refine o_call (ih bx ra rc re i i1 _ _ hPk hp hsb hre (by omega) (by omega)) rfl rfl rfl (pkA) (fun w st => ⟨(RdK.old hw.1 hw.2).out w st, St.apart_M st (by exact hiB) hw.1 hw.2 (by decide)⟩) (fun v20 S20 ⟨hv20, hP20⟩ => ?_); subst hv20
   have hq20 := (hA _ hl2)
   refine oX (eO 5 rfl ?_); refine o_call (catS_fn bx ra rc re.length _ _ hP20 (iterM (fun c => catM c (partM y js)) k nothP X).1 _ (by omega)) rfl rfl rfl (pkA) (fun _ _ => trivial) (fun v21 S21 ⟨hv21, hP21⟩ => ?_); subst hv21
   refine oX (eO 6 rfl ?_); refine o_stW rfl rfl upA lnA lnA onA ?_; refine o_nil ?_; refine x_oneL rfl ?_; refine e_done (by kernel_rfl) ?_; refine x_block (xZ hK7 (c_region ?_)); refine oS sD (oM (o_nil ?_))
   rw [show catP (iterM (fun c => catM c (partM y js)) k nothP X).1 ((partM y js) (iterM (fun c => catM c (partM y js)) k nothP X).2).1 = (iterM (fun c => catM c (partM y js)) (k + 1) nothP X).1 by rw [iterM_succ]; rfl]
   exact xI (k + 1, _) ⟨by omega, by rw [iterM_succ]; exact hP21⟩
  ·obtain rfl : mn = k := by omega
   refine c_exit ?_; refine x_then_exit (x_then_exit (x_block_exit (xZ hK3 (c_seq fun _ hK8 => ?_)))); refine cR fun _ hK9 => ?_; refine oM ?_
   by_cases hneg : mx < 0
   ·rw [if_pos hneg, Nat.succ_mul] at hc
    refine oS (lsT (h := hneg)) ?_; refine oZ hK9 ?_; refine cT (cR fun _ hK10 => ?_); refine oM (oM ?_); refine o_call (ih bx ra rc re i i1 _ _ hPk hp hsb hre (by omega) (by omega)) rfl rfl rfl (pkA) (fun w st => ⟨(RdK.old hw.1 hw.2).out w st, St.apart_M st (by exact hiB) hw.1 hw.2 (by decide)⟩) (fun v27 S27 ⟨hv27, hP27⟩ => ?_); subst hv27
    have hq27 := (hA _ hl2)
    refine o_alloc (l := Ep4 zeroP) (by rfl) rfl fun b10 => ?_; refine o_stW rfl rfl upA lnA lnA onA ?_; refine oZ hK10 (cR fun _ hK11 => ?_); refine oM ?_; refine oS sF ?_; refine oS (s_indexA rfl rfl (by omega)) ?_; refine oS (s_ldB rfl ((RdPK.cels (RdPK.own' meA (Ep4_L (i := 0) (by omega) (by omega))))) lnA) ?_; refine oS sF ?_; refine oS (s_indexA rfl rfl (by omega)) ?_; refine oS (s_ldB rfl ((RdPK.cels (RdPK.own' meA (Ep4_F (i := 0) (by omega) (by omega))))) lnA) ?_; refine o_call (joinsS_fn bx ra rc re.length _ _ hP27 _ _ (by omega)) rfl rfl rfl (pkA) (fun _ _ => trivial) (fun v35 S35 hP35 => ?_); refine oZ hK11 (c_seq fun _ hK12 => ?_); refine c_drawE ([(b10, .cells (Ep4 (((partM y js) (iterM (fun c => catM c (partM y js)) mn nothP X).2).1)).toArray 93 (0, 0)), (b9, .cells (Ep4 ((iterM (fun c => catM c (partM y js)) mn nothP X).1)).toArray 93 (0, 0))]) (fun i => false) ?_; refine eP 0 rfl sM ?_; refine eK 1 rfl (s_ldB rfl (RdPK.cels (.own meA)) lnA) ?_; refine eK 3 rfl (s_ldB rfl (RdPK.cels (.own meA)) lnA) ?_; refine eO 2 rfl ?_; refine o_callP (nothing_fn) rfl rfl rfl (fun _ _ => trivial) (fun v38 hv38 => ?_); subst hv38
    refine oX (eO 4 rfl ?_); refine o_callP (alt_fn nothP ((partM y js) (iterM (fun c => catM c (partM y js)) mn nothP X).2).1) rfl rfl rfl (fun _ _ => trivial) (fun v40 hv40 => ?_); subst hv40
    refine oX (eO 5 rfl ?_); refine o_call (catS_fn bx ra rc re.length _ _ hP35 (iterM (fun c => catM c (partM y js)) mn nothP X).1 _ (by simp only [Plc.join, joinF_len]; omega)) rfl rfl rfl (pkA) (fun _ _ => trivial) (fun v41 S41 ⟨hv41, hP41⟩ => ?_); subst hv41
    refine oX (eO 6 rfl ?_); refine o_stW rfl rfl upA lnA lnA onA ?_; refine oX (eZ hK12 (c_ret ?_)); refine x_then_ret (?_); exact x_ret rfl (.agg inferInstance inferInstance rfl (RdPK.cels (.own meA)) lnA (.nil)) (⟨S41, by exact hzB, by rw [repM_neg hneg]; rfl, by rw [repM_neg hneg]; exact hP41⟩)
   ·rw [if_neg hneg] at hc
    have hsum : mn * cnt1 y js + (mx - mn).toNat * cnt1 y js = mx.toNat * cnt1 y js := by rw [← Nat.add_mul]; congr 1; omega
    refine oS (lsF (h := hneg)) ?_; refine oZ hK9 ?_; refine cFZ hK8 (cR fun _ hK13 => ?_); refine o_callP (nothing_fn) rfl rfl rfl (fun _ _ => trivial) (fun v42 hv42 => ?_); subst hv42
    refine o_alloc (l := Ep4 zeroP) (by rfl) rfl fun b11 => ?_; refine o_stW rfl rfl upA lnA lnA onA ?_; refine oZ hK13 (c_seq fun _ hK14 => ?_); refine cR fun _ hK15 => ?_; refine oM (oM ?_); refine oS sU (oM (oZ hK15 (c_block ?_))); refine c_loop2 (fun (k : Nat) (Sk : Hp) => k ≤ (mx - mn).toNat ∧ PlS bx ra rc re.length (iterM (moreM (partM y js)) k nothP (iterM (fun c => catM c (partM y js)) mn nothP X).2).2 Sk) (fun (k : Nat) (Sk : Hp) => [(46, .int .i64 k)]) [(0, _), (1, _), (8, _), (9, _), (11, _), (45, _)] (fun (k : Nat) (Sk : Hp) => (b11, .cells (Ep4 ((iterM (moreM (partM y js)) k nothP (iterM (fun c => catM c (partM y js)) mn nothP X).2).1)).toArray 93 (0, 0)) :: (b9, .cells (Ep4 ((iterM (fun c => catM c (partM y js)) mn nothP X).1)).toArray 93 (0, 0)) :: (b8, .cells (Ep4 zeroP).toArray 93 (0, 0)) :: Sk) (fun (k : Nat) (Sk : Hp) => (mx - mn).toNat - k) 0 Sk ⟨Nat.zero_le _, hPk⟩ sbA sbA hzB ?_
    rintro k Sk ⟨hk, hPk⟩
    obtain ⟨hl3, hl4⟩ := more_len hA (iterM (fun c => catM c (partM y js)) mn nothP X).2 hl2 k
    have hmk1 : k * cnt1 y js ≤ (mx - mn).toNat * cnt1 y js := Nat.mul_le_mul_right _ hk
    refine cR fun _ hK16 => ?_; refine oS (s_lss rfl rfl) ?_; refine oZ hK16 (c_seq fun _ hK17 => ?_); refine c_if rfl (fun hlt2 => ?_) (fun hlt2 => ?_)
    ·have hmk2 := mul_lt (n := cnt1 y js) (show k < (mx - mn).toNat by omega)
     refine c_skip (xZ hK17 (c_seq fun _ hK18 => ?_)); refine c_block ?_; refine c_drawE ([(b11, .cells (Ep4 ((iterM (moreM (partM y js)) k nothP (iterM (fun c => catM c (partM y js)) mn nothP X).2).1)).toArray 93 (0, 0))]) (fun i => Nat.beq i 8) ?_; refine eP 1 rfl sM ?_; refine eP 2 rfl sM ?_; refine eP 3 rfl sM ?_; refine eK 5 rfl (s_ldB rfl (RdPK.cels (.own meA)) lnA) ?_; refine eO 0 rfl ?_; refine o_callP (nothing_fn) rfl rfl rfl (fun _ _ => trivial) (fun v48 hv48 => ?_); subst hv48
     refine oX (eO 4 rfl ?_); refine o_call (ih bx ra rc re i i1 _ _ hPk hp hsb hre (by omega) (by omega)) rfl rfl rfl (pkA) (fun w st => ⟨(RdK.old hw.1 hw.2).out w st, St.apart_M st (by exact hiB) hw.1 hw.2 (by decide)⟩) (fun v52 S52 ⟨hv52, hP52⟩ => ?_); subst hv52
     have hq52 := (hA _ hl4)
     refine oX (eO 6 rfl ?_); refine o_call (catS_fn bx ra rc re.length _ _ hP52 _ (iterM (moreM (partM y js)) k nothP (iterM (fun c => catM c (partM y js)) mn nothP X).2).1 (by omega)) rfl rfl rfl (pkA) (fun _ _ => trivial) (fun v54 S54 ⟨hv54, hP54⟩ => ?_); subst hv54
     refine oX (eO 7 rfl ?_); refine o_callP (alt_fn nothP _) rfl rfl rfl (fun _ _ => trivial) (fun v55 hv55 => ?_); subst hv55
     refine oX (eO 8 rfl ?_); refine o_stW rfl rfl upA lnA lnA onA ?_; refine o_nil ?_; refine x_oneL rfl ?_; refine e_done (by kernel_rfl) ?_; refine x_block (xZ hK18 (c_region ?_)); refine oS sD (oM (o_nil ?_))
     rw [show altP nothP (catP ((partM y js) (iterM (moreM (partM y js)) k nothP (iterM (fun c => catM c (partM y js)) mn nothP X).2).2).1 (iterM (moreM (partM y js)) k nothP (iterM (fun c => catM c (partM y js)) mn nothP X).2).1) = (iterM (moreM (partM y js)) (k + 1) nothP (iterM (fun c => catM c (partM y js)) mn nothP X).2).1 by rw [iterM_succ]; rfl]
     exact xI (k + 1, _) ⟨by omega, by rw [iterM_succ]; exact hP54⟩
    ·obtain rfl : k = (mx - mn).toNat := by omega
     refine c_exit ?_; refine x_then_exit (x_then_exit (x_block_exit (xZ hK14 (cR fun _ hK19 => ?_)))); refine oM ?_; refine oS (s_ldB rfl (RdPK.cels (.own meA)) lnA) ?_; refine oS (s_ldB rfl (RdPK.cels (.own meA)) lnA) ?_; refine o_call (catS_fn bx ra rc re.length _ _ hPk (iterM (fun c => catM c (partM y js)) mn nothP X).1 (iterM (moreM (partM y js)) (mx - mn).toNat nothP (iterM (fun c => catM c (partM y js)) mn nothP X).2).1 (by omega)) rfl rfl rfl (pkA) (fun _ _ => trivial) (fun v60 S60 ⟨hv60, hP60⟩ => ?_); subst hv60
     refine o_stW rfl rfl upA lnA lnA onA ?_; refine oZ hK19 (c_ret ?_); refine ?_; exact x_ret rfl (.agg inferInstance inferInstance rfl (RdPK.cels (.own meA)) lnA (.nil)) (⟨S60, by exact hzB, by rw [repM_pos hneg]; rfl, by rw [repM_pos hneg]; exact hP60⟩)
theorem rep_fn (y : Nd) (js : F) (ih : PartC Tryz.prog y js) (hwf : (F.nd y js .nil).wf) (bx : Nat) (ra : Option Addr) (rc : Nat) (re : List Nd) (i i1 : Nat) (X : Plc) (S : Hp) (hP : PlS bx ra rc re.length X S) (hp : Part re (.nd y js .nil) i i1) (hsb : shapedB re = true) (hre : ∀ x ∈ re, -128 ≤ x.op ∧ x.op < 128) (mn : Nat) (mx : Int) (hmn : mn ≤ 255) (hmx : mx = -1 ∨ ((mn : Int) ≤ mx ∧ mx ≤ 255)) (hc : X.sets.length + (if mx < 0 then mn + 1 else mx.toNat) * cnt1 y js ≤ 20) (hxl : X.fol.length = X.sets.length) : HL.Fn Tryz.prog 97 [.pointer (some ⟨bx, 0, none⟩), .int .i64 i, .int .i64 mn, .int .i64 mx] (fun w => Rd En w (.slice ra re.length rc) re ∧ Apart (keys S) (.slice ra re.length rc)) S (fun v S' => v = .agg (Ep4 ((repM (partM y js) mn mx X).1)).toArray ∧ PlS bx ra rc re.length (repM (partM y js) mn mx X).2 S') :=
  HL.Fn.sub (repO_fn y js ih hwf bx ra rc re i i1 X S hP hp hsb hre mn mx hmn hmx hc hxl) fun v S' ⟨S2, h1, h2⟩ => ⟨S2, h1, h2⟩
end Go.Proofs.YtmompllplidphaaGreatDoor
namespace Go.HL.Kl.Mc
open Go Go.HL Go.HL.Kl
noncomputable def mokB (m : List In) : Bool := @decide (MOk m) (Classical.propDecidable _)
def MUp (m : List In) (q : Nat) : Prop := ∀ i t, i < q → m[i]? = some t → InOk (m.length - 1) t ∧ (t.op ≤ 3 → i + 1 < m.length)
def wantI (t : In) : In := ⟨t.op, if t.op = 1 then t.set else 0, if t.op = 4 ∨ t.op = 5 then t.x else 0, if t.op = 5 then t.y else 0⟩
/-! forests, one behind the other -/
def F.app : F → F → F
  | .nil, g => g
  | .nd x ks r, g => .nd x ks (r.app g)
theorem F.num_nil {f : F} (h : f.num = 0) : f = .nil := by
  cases f with
  | nil => rfl
  | nd x ks r => simp [F.num] at h
/-! lists of booleans -/
def bo0 (l : List Bool) (i : Nat) : Bool := l.getD i false
def orF (a b : List Bool) (i : Nat) : Bool := bo0 a i || bo0 b i
def orL (a b : List Bool) : List Bool := (List.range a.length).map (orF a b)
def moreTo (a b : List Bool) (k : Nat) : Bool := (List.range k).any fun i => bo0 b i && !bo0 a i
def moreB (a b : List Bool) : Bool := moreTo a b a.length
def cf (l : List Bool) : Nat := (List.range l.length).countP fun i => !bo0 l i
structure SetP (w : List UInt8) (s : Cl) (fr : List Bool) (j : Nat) (out : List Bool) : Prop where
  len : out.length = w.length + 1
  get : ∀ q : Nat, out[q]? = some true ↔ ∃ p, p < j ∧ q = p + 1 ∧ fr[p]? = some true ∧ ∃ b, w[p]? = some b ∧ s.getLsbD b.toNat = true
def OutP (N : Nat) (S : Nat → Prop) (vf : Value) (fr : List Bool) (v : Value) (S' : Hp) : Prop :=
  ∃ (a : Option Addr) (c : Nat) (l : List Bool), v = .slice a l.length c ∧ IsS l N S ∧ ∀ W : World, (∀ b o, (b, o) ∈ S' → W.heap[b]? = some o) → Rd Ebo W vf fr → Rd Ebo W v l
def OverC (P : Program) (fn : Nat) (w : List UInt8) (x : Nd) (ks : F) : Prop := ∀ (ra : Option Addr) (rc : Nat) (re : List Nd) (ta : Option Addr) (tc i i' : Nat) (fa : Option Addr) (fc : Nat) (fr : List Bool) (S : Nat → Prop),
  (∀ x ∈ re, -128 ≤ x.op ∧ x.op < 128) → (∀ x ∈ re, ¬ x.op = 8) → w.length ≤ 1000000 → Part re (.nd x ks .nil) i i' → IsS fr w.length S → (∀ p, S p → p ≤ w.length) →
  Fn P fn [.slice ra re.length rc, .int .i64 i, .slice ta w.length tc, .slice fa fr.length fc] (fun W => Rd En W (.slice ra re.length rc) re ∧ Rd Eb W (.slice ta w.length tc) w ∧ Rd Ebo W (.slice fa fr.length fc) fr) [] (OutP w.length (img (der1 w x ks) S) (.slice fa fr.length fc) fr)
def RdC (vf : Value) (fr : List Bool) (v : Value) (l : List Bool) (S : Hp) : Prop := ∀ W : World, (∀ b o, (b, o) ∈ S → W.heap[b]? = some o) → Rd Ebo W vf fr → Rd Ebo W v l
end Go.HL.Kl.Mc
namespace Go.Proofs.YtmompllplidphaaGreatDoor
open Go Go.HL Go.Proofs Go.HL.Kl Go.HL.Kl.Mc Go.HL.Sts
set_option maxHeartbeats 2000000 in
theorem partO_fn (n : Nd) (ks : F) (ih : ∀ y js, js.size < ks.size → PartC Tryz.prog y js) (bx : Nat) (ra : Option Addr) (rc : Nat) (re : List Nd) (i i1 : Nat) (X : Plc) (S : Hp) (hP : PlS bx ra rc re.length X S) (hp : Part re (.nd n ks .nil) i i1) (hsb : shapedB re = true) (hre : ∀ x ∈ re, -128 ≤ x.op ∧ x.op < 128) (hc : X.sets.length + cnt1 n ks ≤ 20) (hxl : X.fol.length = X.sets.length) : HL.Fn Tryz.prog 39 [.pointer (some ⟨bx, 0, none⟩), .int .i64 i] (fun w => Rd En w (.slice ra re.length rc) re ∧ Apart (keys S) (.slice ra re.length rc)) S (fun v S' => ∃ S2, HSub S' S2 ∧ v = .agg (Ep4 ((partM n ks X).1)).toArray ∧ PlS bx ra rc re.length (partM n ks X).2 S2) := by
  refine fn_of Tryz.func39 rfl rfl rfl fun w0 hw => ?_
  have hsl := hw.1.sl
  have hbl := hsl.le
  have hx := hp.head.1
  have hil := (List.getElem?_eq_some_iff.1 hx).1
  have hkn : (0 : Nat) + (ks.num : Int) = n.kids := by have := hp.wf.2.1; omega
  have hle := hp.le
  have hpl := hp.len
  simp only [F.size, Nat.add_zero] at hpl
  have hkp : Part re ks (i + 1) i1 := by have h1 := hp.head.2.1; rwa [show i + 1 + ks.size = i1 by omega] at h1
  have hre1 := hre n (List.mem_of_getElem? hx)
  have hsz := ks.num_le
  refine cR fun _ hK1 => ?_; refine o_alloc (l := Ep4 zeroP) (by rfl) rfl fun b4 => ?_; refine oZ hK1 (cR fun _ hK2 => ?_); refine oM ?_; refine oS sN ?_; refine oS sF ?_; refine oS (s_ld rfl (hP.cel0 hiA)) ?_; refine oM ?_; refine oS (s_idx rfl rfl (by assumption) (by omega)) ?_; refine oS (s_ldB rfl ((RdK.old (κ := ⟨_, [], w0, _⟩) hw.1 hw.2).lds i hx (by omega)) lnA) ?_; refine o_alloc (l := En zN) (by rw [En_zero]; rfl) rfl fun b5 => ?_; refine o_stW rfl rfl upA lnA lnA onA ?_; refine oZ hK2 (cR fun _ hK3 => ?_); refine o_alloc (l := Ep4 zeroP) (by rfl) rfl fun b6 => ?_; refine oZ hK3 (c_seq fun _ hK4 => ?_); refine cR fun _ hK5 => ?_; refine oS sF ?_; refine oS sL (oZ hK5 (c_block (cR fun _ hK6 => ?_)))
  by_cases h1 : n.op = 1
  ·obtain ⟨sa, sc, fa, fc, Ss, Sf, rfl, hs, hf⟩ := hP
   rw [cnt1_set h1] at hc
   refine oS (eqT (h := h1)) ?_; refine oA (oZ hK6 ?_); refine cT (cR fun _ hK7 => ?_); refine oM ?_; refine oS sN ?_; refine oS sF ?_; refine oS sL ?_; refine oS sC (oA (oZ hK7 (c_seq fun _ hK8 => ?_))); refine c_drawE ([(bx, .cells [.slice ra re.length rc, .slice sa X.sets.length sc, .slice fa X.fol.length fc].toArray 86 (0, 0)), (b5, .cells (En n).toArray 42 (0, 0))]) (fun i => Nat.beq i 11) ?_; refine eP 0 rfl sM ?_; refine eP 1 rfl sM ?_; refine eP 2 rfl sN ?_; refine eP 3 rfl sF ?_; refine eK 4 rfl sL ?_; refine eP 5 rfl sF ?_; refine eK 6 rfl (s_ldB rfl (RdPK.cels (RdPK.own' meA En_Ec)) lnA) ?_; refine eO 7 rfl ?_; refine o_bs (E := Ec) (xs := [n.set]) (vs := [_]) rfl rfl rfl rfl rfl (by decide) (by decide) fun b36 S36 hS36 => ?_; refine oX (eO 8 rfl ?_); refine o_app hs (hS36.rdk hiA) rfl rfl rfl rfl (by simp only [List.length_append, List.length_singleton]; omega) (by simp only [List.length_append, List.length_singleton]; omega) rfl pkA fun a37 c37 S37 hS37 => ?_; refine oX ?_; refine eP 9 rfl sN ?_; refine eP 10 rfl sF (eO 11 rfl ?_); refine o_store rfl rfl rfl upA ltA rfl ?_; refine o_nil ?_; refine x_oneL rfl ?_; refine e_done (by kernel_rfl) ?_
   refine xZ hK8 (cR fun _ hK9 => ?_); refine oM (oM ?_); refine oS sN ?_; refine oS sF ?_; refine oS sL ?_; refine oS (s_build0 rfl) ?_; refine o_bs (E := E3) (xs := [(0 : Sp)]) (vs := [_]) rfl rfl rfl rfl rfl (by decide) (by decide) fun b46 S46 hS46 => ?_; refine o_app hf (hS46.rdk hiA) rfl rfl rfl rfl (by simp only [List.length_append, List.length_singleton]; omega) (by simp only [List.length_append, List.length_singleton]; omega) rfl pkA fun a47 c47 S47 hS47 => ?_; refine oS sN ?_; refine oS sF ?_; refine o_store rfl rfl rfl upA ltA rfl ?_; refine oZ hK9 (cR fun _ hK10 => ?_); refine oS (s_build0 rfl) ?_; refine oM ?_; refine o_callP (with_fn 0 X.sets.length (by omega)) rfl rfl rfl (fun _ _ => trivial) (fun v52 hv52 => ?_)
   rw [Sts.or_zero] at hv52
   subst hv52; refine o_alloc (l := E3 0) (by rfl) rfl fun b8 => ?_; refine o_stW rfl rfl upA lnA lnA onA ?_; refine oZ hK10 ?_; refine c_drawE ([(b8, .cells (E3 (pit X.sets.length)).toArray 90 (0, 0))]) (fun i => false) ?_; refine eK 0 rfl (s_ldB rfl (RdPK.cels (.own meA)) lnA) ?_; refine eK 1 rfl (s_ldB rfl (RdPK.cels (.own meA)) lnA) ?_; refine eK 3 rfl (s_ldB rfl (RdPK.cels (.own meA)) lnA) ?_; refine eK 4 rfl (s_ldB rfl (RdPK.cels (.own meA)) lnA) ?_; refine eP 2 rfl (s_buildA (cs := [_, _, _, _, _, _]) (vs := [_, _]) rfl rfl (.cons rfl rfl rfl rfl (.cons rfl rfl rfl rfl (.nil)))) ?_; refine eP 5 rfl (s_buildA (cs := [_, _, _, _, _, _]) (vs := [_, _]) rfl rfl (.cons rfl rfl rfl rfl (.cons rfl rfl rfl rfl (.nil)))) ?_; refine eP 6 rfl sF (eO 7 rfl ?_); refine o_storeA (l := Ep4 zeroP) (off := 4) (cs := E3 (pit X.sets.length) ++ E3 (pit X.sets.length)) rfl rfl rfl (fun v hv => by rcases List.mem_append.1 hv with h | h <;> exact Es_one _ v h) upA (Nat.le_of_ble_eq_true rfl) (fun _ _ => frz0) ?_; refine oX ?_; refine eP 8 rfl sF (eO 9 rfl ?_); refine o_storeA (l := splice (Ep4 zeroP) 4 (E3 (pit X.sets.length) ++ E3 (pit X.sets.length))) (off := 10) (cs := E3 (pit X.sets.length) ++ E3 (pit X.sets.length)) rfl rfl rfl (fun v hv => by rcases List.mem_append.1 hv with h | h <;> exact Es_one _ v h) upA (Nat.le_of_ble_eq_true rfl) (fun _ _ => frz0) ?_
   rw [Ep4_sets]
   refine oX ?_; refine e_done (by kernel_rfl) ?_; refine x_block (xZ hK4 (cR fun _ hK11 => ?_)); refine oS (s_ldB rfl (RdPK.cels (.own meA)) lnA) ?_; refine o_stW rfl rfl upA lnA lnA onA ?_; refine oZ hK11 (c_ret ?_); refine ?_; exact x_ret rfl (.agg inferInstance inferInstance rfl (RdPK.cels (.own meA)) lnA (.nil)) (⟨(bx, .cells [.slice ra re.length rc, .slice a37 (X.sets ++ [n.set]).length c37, .slice a47 (X.fol ++ [0]).length c47].toArray 86 (0, 0)) :: (S47 ++ S37), by exact hzB, by rw [partM_set h1]; rfl, by rw [partM_set h1]; exact ⟨_, _, _, _, _, _, rfl, hS37, hS47⟩⟩)
  ·refine oS (eqF (h := h1)) ?_; refine oA (oZ hK6 ?_); refine cF (cR fun _ hK12 => ?_)
   by_cases h2 : n.op = 2
   ·refine oS (eqT (h := h2)) ?_; refine oA (oZ hK12 ?_); refine cT (c_region ?_); refine oS (s_buildA (cs := [_, _]) (vs := [_, _]) rfl rfl (.cons rfl rfl rfl rfl (.cons rfl rfl rfl rfl (.nil)))) ?_; refine oS sF ?_; refine oS (s_indexA rfl rfl (by omega)) ?_; refine o_storeA (l := Ep4 zeroP) (off := 2) (cs := [.bool true, .bool true]) rfl rfl rfl (fun v hv => by simp at hv; subst hv; rfl) upA (Nat.le_of_ble_eq_true rfl) (fun _ _ => frz0) ?_
    rw [Ep4_begin]
    refine o_nil (x_block (xZ hK4 (cR fun _ hK13 => ?_))); refine oS (s_ldB rfl (RdPK.cels (.own meA)) lnA) ?_; refine o_stW rfl rfl upA lnA lnA onA ?_; refine oZ hK13 (c_ret ?_); refine ?_; exact x_ret rfl (.agg inferInstance inferInstance rfl (RdPK.cels (.own meA)) lnA (.nil)) (⟨S, by exact hzB, by rw [partM_begin h2]; rfl, by rw [partM_begin h2]; exact hP⟩)
   ·refine oS (eqF (h := h2)) ?_; refine oA (oZ hK12 ?_); refine cF (cR fun _ hK14 => ?_)
    by_cases h3 : n.op = 3
    ·refine oS (eqT (h := h3)) ?_; refine oA (oZ hK14 ?_); refine cT (c_region ?_); refine oS sF ?_; refine oS (s_indexA rfl rfl (by omega)) ?_; refine oS (s_indexA rfl rfl (by omega)) ?_; refine o_store (l := Ep4 zeroP) (off := 1) rfl rfl rfl upA (by decide) rfl ?_; refine oS sF ?_; refine oS (s_indexA rfl rfl (by omega)) ?_; refine oS (s_indexA rfl rfl (by omega)) ?_; refine o_store (l := (Ep4 zeroP).set 1 (.bool true)) (off := 3) rfl rfl rfl upA (by decide) rfl ?_
     rw [Ep4_end]
     refine o_nil (x_block (xZ hK4 (cR fun _ hK15 => ?_))); refine oS (s_ldB rfl (RdPK.cels (.own meA)) lnA) ?_; refine o_stW rfl rfl upA lnA lnA onA ?_; refine oZ hK15 (c_ret ?_); refine ?_; exact x_ret rfl (.agg inferInstance inferInstance rfl (RdPK.cels (.own meA)) lnA (.nil)) (⟨S, by exact hzB, by rw [partM_end h3]; rfl, by rw [partM_end h3]; exact hP⟩)
    ·refine oS (eqF (h := h3)) ?_; refine oA (oZ hK14 ?_); refine cF (cR fun _ hK16 => ?_)
     by_cases h6 : n.op = 6
     ·obtain ⟨y, js, rfl⟩ := one_kid hp.wf (.inl h6)
      have hfr := flds_rep hp.wf.1 h6
      have hfl := (flds_iff.1 (by have := hp.wf.1; simp only [ndOk, Bool.and_eq_true] at this; exact this.1)).2.2.2.1 h6
      obtain ⟨mn, hmn⟩ : ∃ k : Nat, n.mn = k := ⟨n.mn.toNat, by omega⟩
      rw [cnt1_rep h6, cnt_kid] at hc
      unfold reps at hc
      rw [hmn, Int.toNat_natCast] at hc
      refine oS (eqT (h := h6)) ?_; refine oA (oZ hK16 ?_); refine cT (cR fun _ hK17 => ?_); refine oM (oM ?_); refine oS sD ?_; refine oS sF ?_; refine oS (step_cast (v' := .int .i64 (mn : Int)) (s_ld rfl (.own meA rfl)) (by rw [hmn])) ?_; refine oS sF ?_; refine oS sL ?_; refine o_call (rep_fn y js (ih y js (by simp only [F.size]; omega)) hkp.wf bx ra rc re (i + 1) i1 X S hP hkp hsb hre mn n.mx (by omega) (by omega) hc hxl) rfl rfl rfl (pkA) (fun w st => ⟨(RdK.old hw.1 hw.2).out w st, St.apart_M st (by exact hiB) hw.1 hw.2 (by decide)⟩) (fun v83 S83 ⟨hv83, hP83⟩ => ?_)
      subst hv83; refine o_stW rfl rfl upA lnA lnA onA ?_; refine oZ hK17 (c_ret ?_); refine x_block_ret (x_then_ret (?_))
      exact x_ret rfl (.agg inferInstance inferInstance rfl (RdPK.cels (.own meA)) lnA (.nil)) (⟨S83, by exact hzB, by rw [partM_rep h6, hmn]; rfl, by rw [partM_rep h6, hmn]; exact hP83⟩)
     ·refine oS (eqF (h := h6)) ?_; refine oA (oZ hK16 ?_); refine cF (cR fun _ hK18 => ?_)
      by_cases h7 : n.op = 7
      ·obtain ⟨y, js, rfl⟩ := one_kid hp.wf (.inr h7)
       rw [cnt1_op (.inr (.inr h7)), cnt_kid] at hc
       refine oS (eqT (h := h7)) ?_; refine oA (oZ hK18 ?_); refine cT (cR fun _ hK19 => ?_); refine oM (oM ?_); refine oS sD ?_; refine o_call (ih y js (by simp only [F.size]; omega) bx ra rc re (i + 1) i1 X S hP hkp hsb hre hc hxl) rfl rfl rfl (pkA) (fun w st => ⟨(RdK.old hw.1 hw.2).out w st, St.apart_M st (by exact hiB) hw.1 hw.2 (by decide)⟩) (fun v89 S89 ⟨hv89, hP89⟩ => ?_); subst hv89
       refine o_stW rfl rfl upA lnA lnA onA ?_; refine oZ hK19 (c_ret ?_); refine x_block_ret (x_then_ret (?_))
       exact x_ret rfl (.agg inferInstance inferInstance rfl (RdPK.cels (.own meA)) lnA (.nil)) (⟨S89, by exact hzB, by rw [partM_group h7]; rfl, by rw [partM_group h7]; exact hP89⟩)
      ·refine oS (eqF (h := h7)) ?_; refine oA (oZ hK18 ?_); refine cF (cR fun _ hK20 => ?_)
       by_cases h4 : n.op = 4
       ·refine oS (eqT (h := h4)) ?_; refine oA (oZ hK20 ?_); refine cT (cR fun _ hK21 => ?_); refine o_callP (nothing_fn) rfl rfl rfl (fun _ _ => trivial) (fun v92 hv92 => ?_); subst hv92
        refine o_stW rfl rfl upA lnA lnA onA ?_; refine oZ hK21 (cR fun _ hK22 => ?_); refine oM ?_; refine oS sD (oA (oA (oZ hK22 (c_block ?_)))); refine c_loop6 (fun (m : Nat) (kid : Nat) (g : F) (c : Pt) (Xc : Plc) (Sc : Hp) => Part re g kid i1 ∧ (m : Int) + g.num = n.kids ∧ g.size ≤ ks.size ∧ kidsM g false c Xc = kidsM ks false nothP X ∧ Xc.sets.length + cntM g ≤ 20 ∧ Xc.fol.length = Xc.sets.length ∧ PlS bx ra rc re.length Xc Sc) (fun (m : Nat) (kid : Nat) (g : F) (c : Pt) (Xc : Plc) (Sc : Hp) => [(10, .int .i64 m), (9, .int .i64 kid)]) [(0, _), (4, _), (5, _), (6, _)] (fun (m : Nat) (kid : Nat) (g : F) (c : Pt) (Xc : Plc) (Sc : Hp) => (b6, .cells (Ep4 (c)).toArray 93 (0, 0)) :: (b5, .cells (En n).toArray 42 (0, 0)) :: (b4, .cells (Ep4 zeroP).toArray 93 (0, 0)) :: Sc) (fun (m : Nat) (kid : Nat) (g : F) (c : Pt) (Xc : Plc) (Sc : Hp) => g.num) 0 (i + 1) ks nothP X S ⟨hkp, hkn, Nat.le_refl _, rfl, by rw [← cnt1_op (n := n) (by omega)]; exact hc, hxl, hP⟩ sbA sbA hzB ?_
        rintro m kid g c Xc Sc ⟨hpg, hmg, hgs, hkk, hcc, hxc, hPc⟩
        have hgl := hpg.len
        have hge := hpg.le
        have hgn := g.num_le
        refine c_seq fun _ hK23 => ?_; refine cR fun _ hK24 => ?_; refine oM ?_; refine oS sF ?_; refine oS sL ?_
        by_cases hmk : (m : Int) < n.kids
        ·obtain ⟨y, js, r, rfl⟩ : ∃ y js r, g = F.nd y js r := by cases g with | nil => simp only [F.num] at hmg; omega | nd y a c => exact ⟨y, a, c, rfl⟩
         have hjs : js.size < ks.size := by simp only [F.size] at hgs; omega
         have hwy := hpg.one.wf
         rw [cntM_nd] at hcc
         have hq := part_adds hwy Xc hxc
         simp only [F.num] at hmg
         simp only [F.size] at hgl
         refine oS (lsT (h := hmk)) ?_; refine oZ hK24 ?_; refine cTZ hK23 (c_seq fun _ hK25 => ?_); refine c_block (c_seq fun _ hK26 => ?_); refine c_drawE ([(b6, .cells (Ep4 (c)).toArray 93 (0, 0))]) (fun i => Nat.beq i 6) ?_; refine eP 0 rfl sM ?_; refine eK 1 rfl (s_ldB rfl (RdPK.cels (.own meA)) lnA) ?_; refine eP 2 rfl sM ?_; refine eP 3 rfl sM (eO 4 rfl ?_); refine o_call (ih y js hjs bx ra rc re kid (kid + 1 + js.size) Xc Sc hPc hpg.one hsb hre (by omega) hxc) rfl rfl rfl (pkA) (fun w st => ⟨(RdK.old hw.1 hw.2).out w st, St.apart_M st (by exact hiB) hw.1 hw.2 (by decide)⟩) (fun v105 S105 ⟨hv105, hP105⟩ => ?_); subst hv105
         refine oX (eO 5 rfl ?_); refine o_call (catS_fn bx ra rc re.length _ _ hP105 c _ (by omega)) rfl rfl rfl (pkA) (fun _ _ => trivial) (fun v106 S106 ⟨hv106, hP106⟩ => ?_); subst hv106
         refine oX (eO 6 rfl ?_); refine o_stW rfl rfl upA lnA lnA onA ?_; refine o_nil ?_; refine x_oneL rfl ?_; refine eZ hK26 (c_region (oM ?_)); refine oS sN ?_; refine oS sF ?_; refine oS (s_ld rfl (hP106.cel0 hiA)) ?_; refine oM ?_; refine o_callP (behind_fn ra rc re hre hsb y js kid (kid + 1 + js.size) hpg.one) rfl rfl rfl (fun w st => (RdK.old hw.1 hw.2).out w st) (fun v112 hv112 => ?_); subst hv112
         refine oA (o_nil (x_block (xZ hK25 (c_region (oM ?_))))); refine oS sD (oA (o_nil ?_)); exact x_then (x_inv (m + 1, kid + 1 + js.size, r, catP c (partM y js Xc).1, (partM y js Xc).2.join c.l0 (partM y js Xc).1.f0, S106) ⟨hpg.head.2.2, by dsimp only; omega, by simp only [F.size] at hgs; dsimp only; omega, by rw [← hkk, kidsM_cat]; rfl, by show (partM y js Xc).2.sets.length + cntM r ≤ 20; omega, by show (joinF _ _ _).length = _; rw [joinF_len]; exact hq.2, hP106⟩ (by simp only [F.num]; omega) sbA hzB)
        ·obtain rfl : g = F.nil := F.num_nil (by omega)
         refine oS (lsF (h := hmk)) ?_; refine oZ hK24 ?_; refine cF ?_; refine c_exit ?_; refine x_then_exit (x_then_exit (x_block_exit (x_block (xZ hK4 (cR fun _ hK27 => ?_))))); refine oS (s_ldB rfl (RdPK.cels (.own meA)) lnA) ?_; refine o_stW rfl rfl upA lnA lnA onA ?_; refine oZ hK27 (c_ret ?_); refine ?_
         simp only [kidsM] at hkk
         exact x_ret rfl (.agg inferInstance inferInstance rfl (RdPK.cels (.own meA)) lnA (.nil)) (⟨Sc, by exact hzB, by rw [partM_cat h4, ← hkk]; rfl, by rw [partM_cat h4, ← hkk]; exact hPc⟩)
       ·refine oS (eqF (h := h4)) ?_; refine oA (oZ hK20 ?_); refine cF (cR fun _ hK28 => ?_)
        by_cases h5 : n.op = 5
        ·refine oS (eqT (h := h5)) ?_; refine oA (oZ hK28 ?_); refine cT (cR fun _ hK29 => ?_); refine oM ?_; refine oS sD (oA (oA (oZ hK29 (c_block ?_)))); refine c_loop6 (fun (m : Nat) (kid : Nat) (g : F) (c : Pt) (Xc : Plc) (Sc : Hp) => Part re g kid i1 ∧ (m : Int) + g.num = n.kids ∧ g.size ≤ ks.size ∧ kidsM g true c Xc = kidsM ks true zeroP X ∧ Xc.sets.length + cntM g ≤ 20 ∧ Xc.fol.length = Xc.sets.length ∧ PlS bx ra rc re.length Xc Sc) (fun (m : Nat) (kid : Nat) (g : F) (c : Pt) (Xc : Plc) (Sc : Hp) => [(12, .int .i64 m), (11, .int .i64 kid)]) [(0, _), (4, _), (5, _), (6, _)] (fun (m : Nat) (kid : Nat) (g : F) (c : Pt) (Xc : Plc) (Sc : Hp) => (b6, .cells (Ep4 (c)).toArray 93 (0, 0)) :: (b5, .cells (En n).toArray 42 (0, 0)) :: (b4, .cells (Ep4 zeroP).toArray 93 (0, 0)) :: Sc) (fun (m : Nat) (kid : Nat) (g : F) (c : Pt) (Xc : Plc) (Sc : Hp) => g.num) 0 (i + 1) ks zeroP X S ⟨hkp, hkn, Nat.le_refl _, rfl, by rw [← cnt1_op (n := n) (by omega)]; exact hc, hxl, hP⟩ sbA sbA hzB ?_
         rintro m kid g c Xc Sc ⟨hpg, hmg, hgs, hkk, hcc, hxc, hPc⟩
         have hgl := hpg.len
         have hge := hpg.le
         have hgn := g.num_le
         refine c_seq fun _ hK30 => ?_; refine cR fun _ hK31 => ?_; refine oM ?_; refine oS sF ?_; refine oS sL ?_
         by_cases hmk : (m : Int) < n.kids
         ·obtain ⟨y, js, r, rfl⟩ : ∃ y js r, g = F.nd y js r := by cases g with | nil => simp only [F.num] at hmg; omega | nd y a c => exact ⟨y, a, c, rfl⟩
          have hjs : js.size < ks.size := by simp only [F.size] at hgs; omega
          have hwy := hpg.one.wf
          rw [cntM_nd] at hcc
          have hq := part_adds hwy Xc hxc
          simp only [F.num] at hmg
          simp only [F.size] at hgl
          refine oS (lsT (h := hmk)) ?_; refine oZ hK31 ?_; refine cTZ hK30 (c_seq fun _ hK32 => ?_); refine c_block (c_seq fun _ hK33 => ?_); refine c_drawE ([(b6, .cells (Ep4 (c)).toArray 93 (0, 0))]) (fun i => Nat.beq i 5) ?_; refine eK 0 rfl (s_ldB rfl (RdPK.cels (.own meA)) lnA) ?_; refine eP 1 rfl sM ?_; refine eP 2 rfl sM (eO 3 rfl ?_); refine o_call (ih y js hjs bx ra rc re kid (kid + 1 + js.size) Xc Sc hPc hpg.one hsb hre (by omega) hxc) rfl rfl rfl (pkA) (fun w st => ⟨(RdK.old hw.1 hw.2).out w st, St.apart_M st (by exact hiB) hw.1 hw.2 (by decide)⟩) (fun v126 S126 ⟨hv126, hP126⟩ => ?_); subst hv126
          refine oX (eO 4 rfl ?_); refine o_callP (alt_fn c _) rfl rfl rfl (fun _ _ => trivial) (fun v127 hv127 => ?_); subst hv127
          refine oX (eO 5 rfl ?_); refine o_stW rfl rfl upA lnA lnA onA ?_; refine o_nil ?_; refine x_oneL rfl ?_; refine eZ hK33 (c_region (oM ?_)); refine oS sN ?_; refine oS sF ?_; refine oS (s_ld rfl (hP126.cel0 hiA)) ?_; refine oM ?_; refine o_callP (behind_fn ra rc re hre hsb y js kid (kid + 1 + js.size) hpg.one) rfl rfl rfl (fun w st => (RdK.old hw.1 hw.2).out w st) (fun v133 hv133 => ?_); subst hv133
          refine oA (o_nil (x_block (xZ hK32 (c_region (oM ?_))))); refine oS sD (oA (o_nil ?_)); exact x_then (x_inv (m + 1, kid + 1 + js.size, r, altP c (partM y js Xc).1, (partM y js Xc).2, S126) ⟨hpg.head.2.2, by dsimp only; omega, by simp only [F.size] at hgs; dsimp only; omega, by rw [← hkk, kidsM_alt], by show (partM y js Xc).2.sets.length + cntM r ≤ 20; omega, by exact hq.2, hP126⟩ (by simp only [F.num]; omega) sbA hzB)
         ·obtain rfl : g = F.nil := F.num_nil (by omega)
          refine oS (lsF (h := hmk)) ?_; refine oZ hK31 ?_; refine cF ?_; refine c_exit ?_; refine x_then_exit (x_then_exit (x_block_exit (x_block (xZ hK4 (cR fun _ hK34 => ?_))))); refine oS (s_ldB rfl (RdPK.cels (.own meA)) lnA) ?_; refine o_stW rfl rfl upA lnA lnA onA ?_; refine oZ hK34 (c_ret ?_); refine ?_
          simp only [kidsM] at hkk
          exact x_ret rfl (.agg inferInstance inferInstance rfl (RdPK.cels (.own meA)) lnA (.nil)) (⟨Sc, by exact hzB, by rw [partM_alt h5, ← hkk]; rfl, by rw [partM_alt h5, ← hkk]; exact hPc⟩)
        ·refine oS (eqF (h := h5)) ?_; refine oA (oZ hK28 ?_); refine cF (c_skip (x_block (xZ hK4 (cR fun _ hK35 => ?_)))); refine oS (s_ldB rfl (RdPK.cels (.own meA)) lnA) ?_; refine o_stW rfl rfl upA lnA lnA onA ?_; refine oZ hK35 (c_ret ?_); refine ?_; exact x_ret rfl (.agg inferInstance inferInstance rfl (RdPK.cels (.own meA)) lnA (.nil)) (⟨S, by exact hzB, by rw [partM_ref h1 h2 h3 h4 h5 h6 h7]; rfl, by rw [partM_ref h1 h2 h3 h4 h5 h6 h7]; exact hP⟩)
theorem part_all : ∀ (m : Nat) (n : Nd) (ks : F), ks.size < m → PartC Tryz.prog n ks
  | 0 => fun _ _ h => absurd h (Nat.not_lt_zero _)
  | m + 1 => fun n ks hm bx ra rc re i i1 X S hP hp hsb hre hc hxl => HL.Fn.sub (partO_fn n ks (fun y js h => part_all m y js (by omega)) bx ra rc re i i1 X S hP hp hsb hre hc hxl) fun v S' ⟨S2, h1, h2⟩ => ⟨S2, h1, h2⟩
theorem part_fn (n : Nd) (ks : F) : PartC Tryz.prog n ks := part_all (ks.size + 1) n ks (Nat.lt_succ_self _)
end Go.Proofs.YtmompllplidphaaGreatDoor
namespace Go.HL
open Go
structure Ky where
  a : Int
  b : Int
  c : Int
  d : Int
  deriving DecidableEq
def Ek (k : Ky) : List Value := [.int .i64 k.a, .int .i64 k.b, .int .i64 k.c, .int .i64 k.d]
instance : Enc Ek 4 := ⟨fun _ => rfl, fun x v hv => by
  simp only [Ek, List.mem_cons, List.not_mem_nil, or_false] at hv
  rcases hv with rfl | rfl | rfl | rfl <;> rfl⟩
structure Me where
  k : Ky
  v : Int
  born : Nat
def Me.enc (e : Me) : MapEntry := { key := .agg (Ek e.k).toArray, val := .int .i8 e.v, born := e.born }
def mpO (es : List Me) (c : Nat) : Obj := .map (es.map Me.enc).toArray c
def getK (es : List Me) (k : Ky) : Int := ((es.find? (fun e => decide (k = e.k))).map (·.v)).getD 0
def putAt (v : Int) : List Me → Ky → List Me
  | [], _ => []
  | e :: es, k => if k = e.k then { e with v := v } :: es else e :: putAt v es k
section
variable {P : Program} {κ : Cx} {Q : Pst} {L : Loc} {H H' : Hp} {ops : Array Oper} {rest : List Oper} {ty t t' : TypeId} {d : Nat} {pos : String} {af : Array Edge} {x y z : Operand}
theorem forIn_ok {β : Type} {f : β → PUnit → Sem (ForInStep PUnit)} {w : World} : ∀ {l : List β}, (∀ x ∈ l, (f x ⟨⟩).run P w = .ok (.yield ⟨⟩) w) → (forIn (m := Sem) l PUnit.unit f).run P w = .ok ⟨⟩ w := by
  intro l
  induction l with
  | nil => intro _; simp
  | cons x l ih =>
    intro h
    rw [List.forIn_cons, Sem.run_bind, h x List.mem_cons_self, Result.andThen_ok]
    exact ih fun y hy => h y (List.mem_cons_of_mem _ hy)
theorem checkInt {e n : Nat} {b : Bool} {v : Value} [TU P e (.int .i64)] (w : World) : (Instr.checkKey b (n + 1) e v).run P w = .ok () w := by
  unfold Instr.checkKey
  rw [Sem.run_bind, run_u, Result.andThen_ok]
  cases v <;> simp
theorem o_mmap (hn : Nat.blt d κ.n = true) (h : ∀ b, O P κ ops Q rest ((d, .map (some b)) :: L) ((b, mpO [] 0) :: H)) : O P κ ops Q (⟨some d, .makeMap t none, ty, pos, af, none⟩ :: rest) L H :=
  o_gen (fun u H' => ∃ b, u = .map (some b) ∧ H' = (b, mpO [] 0) :: H) hn
    (fun ρ w pos af g hρ st => ⟨_, _, _, by simp [execOp, Instr.makeMap, newObj, Sem.run, mpO], ⟨_, rfl, rfl⟩, st.alloc _⟩)
    (fun u H' ⟨b, hu, hH⟩ => by subst hu; subst hH; exact h b)
end
end Go.HL
namespace Go.HL
open Go
class KE (P : Program) (kt : TypeId) {κ : Type} [DecidableEq κ] (Ek : κ → Value) : Prop where
  eq : ∀ w a b, (Op.equal kt (Ek a) (Ek b)).run P w = .ok (decide (a = b)) w
  check : ∀ w b k, (Instr.checkKey b 10000 kt (Ek k)).run P w = .ok () w
  bits : ∀ k, Instr.sameBits 10000 (Ek k) (Ek k) = true
  und : ∃ d, P.underlying kt = some d ∧ ((∀ k k', Instr.sameNow d (Ek k) (Ek k') = none) ∨ ∀ k k', Instr.sameNow d (Ek k) (Ek k') = some (decide (k = k')))
structure Mx (κ : Type) where
  k : κ
  v : Value
  born : Nat
section
variable {κ : Type} [DecidableEq κ] {Ek : κ → Value}
def Mx.enc (Ek : κ → Value) (e : Mx κ) : MapEntry := { key := Ek e.k, val := e.v, born := e.born }
def mxO (Ek : κ → Value) (es : List (Mx κ)) (c : Nat) : Obj := .map (es.map (Mx.enc Ek)).toArray c
def getM (es : List (Mx κ)) (k : κ) : Option Value := (es.find? (fun e => decide (k = e.k))).map (·.v)
def putM (v : Value) : List (Mx κ) → κ → List (Mx κ)
  | [], _ => []
  | e :: es, k => if k = e.k then { e with v := v } :: es else e :: putM v es k
theorem getM_nil (k : κ) : getM ([] : List (Mx κ)) k = none := rfl
theorem getM_cons (e : Mx κ) (es : List (Mx κ)) (k : κ) : getM (e :: es) k = if k = e.k then some e.v else getM es k := by
  unfold getM
  by_cases h : k = e.k <;> simp [List.find?_cons, h]
theorem getM_none {es : List (Mx κ)} {k : κ} (h : ∀ e ∈ es, k ≠ e.k) : getM es k = none := by
  induction es with
  | nil => rfl
  | cons e es ih => rw [getM_cons, if_neg (h e List.mem_cons_self)]; exact ih fun e' he => h e' (List.mem_cons_of_mem _ he)
theorem getM_push {es : List (Mx κ)} {k : κ} (hn : ∀ e ∈ es, k ≠ e.k) (v : Value) (n : Nat) (j : κ) : getM (es ++ [⟨k, v, n⟩]) j = if j = k then some v else getM es j := by
  induction es with
  | nil => simp [getM_cons, getM_nil]
  | cons e es ih =>
    rw [List.cons_append, getM_cons, getM_cons, ih (fun e' h => hn e' (List.mem_cons_of_mem _ h))]
    by_cases h : j = k
    · subst h; rw [if_neg (hn e List.mem_cons_self)]; simp
    · simp [h]
theorem putM_len (v : Value) : ∀ (es : List (Mx κ)) (k : κ), (putM v es k).length = es.length
  | [], _ => rfl
  | e :: es, k => by
    unfold putM
    split
    · rfl
    · rw [List.length_cons, putM_len v es k, List.length_cons]
theorem getM_put {es : List (Mx κ)} {k : κ} (h : ∃ e ∈ es, k = e.k) (v : Value) (j : κ) : getM (putM v es k) j = if j = k then some v else getM es j := by
  induction es with
  | nil => obtain ⟨e, he, _⟩ := h; cases he
  | cons e es ih =>
    unfold putM
    by_cases hk : k = e.k
    · rw [if_pos hk, getM_cons, getM_cons]
      by_cases hj : j = k
      · simp [hj, hk]
      · rw [if_neg (by simp; rw [← hk]; exact hj), if_neg hj, if_neg (by rw [← hk]; exact hj)]
    · rw [if_neg hk, getM_cons, getM_cons, ih (by
        obtain ⟨e', he, hk'⟩ := h
        rcases List.mem_cons.1 he with rfl | he
        · exact absurd hk' hk
        · exact ⟨e', he, hk'⟩)]
      by_cases hj : j = k
      · subst hj; rw [if_neg hk]; simp
      · simp [hj]
end
section
variable {P : Program} {κ : Cx} {Q : Pst} {L : Loc} {H : Hp} {ops : Array Oper} {rest : List Oper} {ty t kt : TypeId} {d : Nat} {pos : String} {af : Array Edge} {x : Operand} {K : Type} {Ek : K → Value}
theorem run_getObj2 {w : World} {b c : Nat} {es : List (Mx K)} (h : w.heap[b]? = some (mxO Ek es c)) : (getObj b).run P w = .ok (mxO Ek es c) w := by
  simp [getObj, Sem.run, h, mxO]
theorem run_setObj2 {w : World} {b c : Nat} {es : List (Mx K)} (hb : w.heap[b]? = some (mxO Ek es c)) (o : Obj) : (setObj b o).run P w = .ok () { w with heap := w.heap.setIfInBounds b o } := by
  simp [setObj, Sem.run, hb, mxO]
theorem s_lenmap {vt b c : Nat} {es : List (Mx K)} [TU P t (.map kt vt)] (hx : ev L x = some (.map (some b))) (hm : (b, mxO Ek es c) ∈ H) : Step P κ (.call ⟨.builtin .len, #[x], #[t]⟩) ty L H (.int .i64 es.length) :=
  ⟨fun ρ w d pos af g hρ st => by
    have ho := run_getObj2 (P := P) (st.has _ _ hm)
    simp [execOp, resolve, invoke, builtin, Builtin.len_, hρ _ _ hx, run_u, ho, mxO, goInt]⟩
theorem o_mmap2 (hn : Nat.blt d κ.n = true) (h : ∀ b, O P κ ops Q rest ((d, .map (some b)) :: L) ((b, mxO Ek [] 0) :: H)) : O P κ ops Q (⟨some d, .makeMap t none, ty, pos, af, none⟩ :: rest) L H :=
  o_mmap hn fun b => by simpa [mpO, mxO] using h b
theorem o_clearmap {vt b c : Nat} {es : List (Mx K)} {R : Hp} [TU P t (.map kt vt)] (hx : ev L x = some (.map (some b))) (hpk : Pick H [(b, mxO Ek es c)] R) (h : ∀ c', O P κ ops Q rest L ((b, mxO Ek [] c') :: R)) : O P κ ops Q (⟨none, .call ⟨.builtin .clear, #[x], #[t]⟩, ty, pos, af, none⟩ :: rest) L H := by
  refine ⟨fun ro a w hro ok => op_want rfl ?_⟩
  have e1 := ok.fr.ev hx
  have st := ok.st.perm hpk.perm
  have hb := st.has _ _ (List.mem_cons_self)
  have ho := run_getObj2 (P := P) hb
  have hs := run_setObj2 (P := P) (Ek := Ek) (es := es) (c := c) hb (mxO Ek [] c)
  have : (execOp a.eval ⟨none, .call ⟨.builtin .clear, #[x], #[t]⟩, ty, pos, af, none⟩).run P w = .ok (.value (.tuple #[])) { w with heap := w.heap.setIfInBounds b (mxO Ek [] c) } := by
    simp only [mxO] at ho hs
    simp [execOp, resolve, invoke, builtin, Builtin.clear_, e1, run_u, ho, mxO]
    simp only [List.map_nil] at hs
    rw [show (Obj.map #[] c) = Obj.map ([] : List MapEntry).toArray c from rfl, hs]
    rfl
  exact op_val this ((h c).out ro _ _ hro.tail ⟨ok.fr, St.put st rfl rfl rfl rfl⟩)
end
section
variable {P : Program} {κ : Cx} {Q : Pst} {L : Loc} {H H' : Hp} {ops : Array Oper} {rest : List Oper} {ty t t' kt : TypeId} {d : Nat} {pos : String} {af : Array Edge} {x y z : Operand} {K : Type} [DecidableEq K] {Ek : K → Value}
def Found (Ek : K → Value) (es : List (Mx K)) (k : K) (i : Nat) (r : Option (Nat × Value)) : Prop :=
  (r = none ∧ ∀ e ∈ es, k ≠ e.k) ∨ ∃ j v, r = some (i + j, v) ∧ getM es k = some v ∧ (∃ e, es[j]? = some e ∧ k = e.k) ∧ ∀ u, (es.map (Mx.enc Ek)).toArray.modify j (fun e => { e with val := u, key := Ek k }) = ((putM u es k).map (Mx.enc Ek)).toArray
theorem Found.nil {k : K} {i : Nat} : Found Ek [] k i none := .inl ⟨rfl, fun e h => by cases h⟩
theorem Found.here {e : Mx K} {es : List (Mx K)} {k : K} {i : Nat} (h : k = e.k) : Found Ek (e :: es) k i (some (i, e.v)) :=
  .inr ⟨0, e.v, by simp, by rw [getM_cons, if_pos h], ⟨e, rfl, h⟩, fun u => by
    apply Array.ext'
    rw [Array.toList_modify]
    simp [putM, h, Mx.enc]⟩
theorem Found.later {e : Mx K} {es : List (Mx K)} {k : K} {i : Nat} {r : Option (Nat × Value)} (h : ¬ k = e.k) (hc : Found Ek es k (i + 1) r) : Found Ek (e :: es) k i r := by
  rcases hc with ⟨h1, h2⟩ | ⟨j, v, h1, h2, ⟨e', he', hk⟩, h4⟩
  · exact .inl ⟨h1, fun e' he' => by rcases List.mem_cons.1 he' with rfl | he'; exact h; exact h2 e' he'⟩
  · refine .inr ⟨j + 1, v, by rw [h1]; congr 2; omega, by rw [getM_cons, if_neg h, h2], ⟨e', by simpa using he', hk⟩, fun u => ?_⟩
    have := congrArg Array.toList (h4 u)
    rw [Array.toList_modify] at this
    apply Array.ext'
    rw [Array.toList_modify]
    simp only [putM, if_neg h, List.map_cons, List.modify_succ_cons]
    rw [show (List.map (Mx.enc Ek) es).modify j _ = _ from this]
theorem find_ask2 [ke : KE P kt Ek] (w : World) (k : K) : ∀ (es : List (Mx K)) (i : Nat), ∃ r, (Instr.findAsking kt (Ek k) (es.map (Mx.enc Ek)) i).run P w = .ok r w ∧ Found Ek es k i r := by
  intro es
  induction es with
  | nil => intro i; exact ⟨none, by simp [Instr.findAsking], .nil⟩
  | cons e es ih =>
    intro i
    simp only [List.map_cons]
    unfold Instr.findAsking
    rw [Sem.run_bind]
    rw [show (Mx.enc Ek e).key = Ek e.k from rfl, ke.eq, Result.andThen_ok]
    by_cases h : k = e.k
    · exact ⟨some (i, e.v), by simp [h, Mx.enc], .here h⟩
    · obtain ⟨r, hr, hc⟩ := ih (i + 1)
      exact ⟨r, by simp [h, hr], .later h hc⟩
theorem find_now2 {D : TypeDesc} (hD : ∀ k k' : K, Instr.sameNow D (Ek k) (Ek k') = some (decide (k = k'))) (k : K) : ∀ (es : List (Mx K)) (i : Nat), ∃ r, Instr.findNow D (Ek k) (es.map (Mx.enc Ek)) i = some r ∧ Found Ek es k i r := by
  intro es
  induction es with
  | nil => intro i; exact ⟨none, rfl, .nil⟩
  | cons e es ih =>
    intro i
    simp only [List.map_cons]
    unfold Instr.findNow
    rw [show (Mx.enc Ek e).key = Ek e.k from rfl, hD]
    by_cases h : k = e.k
    · exact ⟨some (i, e.v), by simp [h, Mx.enc], .here h⟩
    · obtain ⟨r, hr, hc⟩ := ih (i + 1)
      exact ⟨r, by simp [h, hr], .later h hc⟩
theorem find_key2 [ke : KE P kt Ek] (w : World) (k : K) (es : List (Mx K)) : ∃ r, (Instr.findKey kt (Ek k) (es.map (Mx.enc Ek))).run P w = .ok r w ∧ Found Ek es k 0 r := by
  obtain ⟨D, hu, hs⟩ := ke.und
  unfold Instr.findKey
  rw [Sem.run_bind, run_underlying hu, Result.andThen_ok]
  rcases hs with hs | hs
  · obtain ⟨r, hr, hc⟩ := find_ask2 (P := P) (kt := kt) (Ek := Ek) w k es 0
    refine ⟨r, ?_, hc⟩
    cases es with
    | nil =>
      simp only [List.map_nil, Instr.findNow]
      simpa [Instr.findAsking] using hr
    | cons e es =>
      have hn : Instr.findNow D (Ek k) ((e :: es).map (Mx.enc Ek)) 0 = none := by
        simp only [List.map_cons, Instr.findNow]
        rw [show (Mx.enc Ek e).key = Ek e.k from rfl, hs]
      rw [hn]
      exact hr
  · obtain ⟨r, hr, hc⟩ := find_now2 hs k es 0
    exact ⟨r, by rw [hr]; simp, hc⟩
theorem run_look2 {vt b c : Nat} {es : List (Mx K)} {k : K} {zv : Value} {ok : Bool} {w : World} [ke : KE P kt Ek] [TU P t (.map kt vt)] [tz : TZ P vt zv] (hm : w.heap[b]? = some (mxO Ek es c)) :
    (Instr.lookup t (.map (some b)) (Ek k) ok).run P w = .ok (if ok then .tuple #[(getM es k).getD zv, .bool (getM es k).isSome] else (getM es k).getD zv) w := by
  have ho := run_getObj2 (P := P) hm
  obtain ⟨r, hr, hc⟩ := find_key2 (P := P) (kt := kt) (Ek := Ek) w k es
  have hck := fun b => ke.check w b k
  unfold Instr.lookup
  simp only [Sem.run_bind, run_u, Result.andThen_ok, ho, mxO, hck, Sem.run_pure]
  rw [hr]
  rcases hc with ⟨h1, h2⟩ | ⟨j, v, h1, h2, _⟩
  · subst h1
    rw [getM_none h2]
    simp [run_zero]
  · subst h1
    rw [h2]
    simp
theorem s_look2 {vt b c : Nat} {es : List (Mx K)} {k : K} {zv : Value} [ke : KE P kt Ek] [TU P t (.map kt vt)] [tz : TZ P vt zv] (hx : ev L x = some (.map (some b))) (hy : ev L y = some (Ek k)) (hm : (b, mxO Ek es c) ∈ H) :
    Step P κ (.lookup t x y false) ty L H ((getM es k).getD zv) :=
  ⟨fun ρ w d pos af g hρ st => by
    have hl := run_look2 (P := P) (t := t) (kt := kt) (vt := vt) (Ek := Ek) (k := k) (ok := false) (st.has _ _ hm)
    simp [execOp, hρ _ _ hx, hρ _ _ hy, hl]⟩
theorem s_look2k {vt b c : Nat} {es : List (Mx K)} {k : K} {zv : Value} [ke : KE P kt Ek] [TU P t (.map kt vt)] [tz : TZ P vt zv] (hx : ev L x = some (.map (some b))) (hy : ev L y = some (Ek k)) (hm : (b, mxO Ek es c) ∈ H) :
    Step P κ (.lookup t x y true) ty L H (.tuple #[(getM es k).getD zv, .bool (getM es k).isSome]) :=
  ⟨fun ρ w d pos af g hρ st => by
    have hl := run_look2 (P := P) (t := t) (kt := kt) (vt := vt) (Ek := Ek) (k := k) (ok := true) (st.has _ _ hm)
    simp [execOp, hρ _ _ hx, hρ _ _ hy, hl]⟩
theorem o_mset2 {vt b c : Nat} {es : List (Mx K)} {k : K} {u : Value} {R : Hp} [ke : KE P kt Ek] [TU P t (.map kt vt)] (hx : ev L x = some (.map (some b))) (hy : ev L y = some (Ek k)) (hz : ev L z = some u)
    (hpk : Pick H [(b, mxO Ek es c)] R) (h : ∀ es' c', (∀ j, getM es' j = if j = k then some u else getM es j) → es'.length = es.length + (if (getM es k).isSome then 0 else 1) → O P κ ops Q rest L ((b, mxO Ek es' c') :: R)) : O P κ ops Q (⟨none, .mapUpdate t x y z, ty, pos, af, none⟩ :: rest) L H := by
  refine ⟨fun ro a w hro ok => op_want rfl ?_⟩
  have e1 := ok.fr.ev hx
  have e2 := ok.fr.ev hy
  have e3 := ok.fr.ev hz
  have st := ok.st.perm hpk.perm
  have ho := run_getObj2 (P := P) (st.has _ _ (List.mem_cons_self))
  obtain ⟨r, hr, hc⟩ := find_key2 (P := P) (kt := kt) (Ek := Ek) w k es
  have hck := fun b => ke.check w b k
  have key : ∃ es' c', (Instr.mapUpdate t (.map (some b)) (Ek k) u).run P w = .ok () { w with heap := w.heap.setIfInBounds b (mxO Ek es' c') } ∧ (∀ j, getM es' j = if j = k then some u else getM es j) ∧ es'.length = es.length + (if (getM es k).isSome then 0 else 1) := by
    rcases hc with ⟨h1, h2⟩ | ⟨j, v, h1, h2, ⟨e', he', hk⟩, h4⟩
    · refine ⟨es ++ [⟨k, u, c⟩], c + 1, ?_, fun j => getM_push h2 u c j, by rw [getM_none h2]; simp⟩
      unfold Instr.mapUpdate
      simp only [Sem.run_bind, run_u, Result.andThen_ok, ho, mxO, hck]
      rw [hr, h1]
      simp only [Result.andThen_ok]
      rw [run_setObj2 (P := P) (Ek := Ek) (es := es) (c := c) (st.has _ _ (List.mem_cons_self))]
      simp [mxO, Mx.enc]
    · refine ⟨putM u es k, c, ?_, fun j => getM_put ⟨e', List.mem_of_getElem? he', hk⟩ u j, by rw [h2, putM_len]; simp⟩
      have hj : ((es.map (Mx.enc Ek)).toArray[j]?).map (·.key) = some (Ek k) := by
        simp [he', Mx.enc, hk]
      have hkey : (((es.map (Mx.enc Ek)).toArray[j]?).map (·.key)).getD (Ek k) = Ek k := by rw [hj]; rfl
      unfold Instr.mapUpdate
      simp only [Sem.run_bind, run_u, Result.andThen_ok, ho, mxO, hck]
      rw [hr, h1]
      simp only [Result.andThen_ok, Nat.zero_add, Sem.run_bind]
      rw [hkey]
      simp only [Instr.keyThatStays, ke.bits, if_true, Sem.run_pure, Result.andThen_ok]
      rw [h4 u, run_setObj2 (P := P) (Ek := Ek) (es := es) (c := c) (st.has _ _ (List.mem_cons_self))]
  obtain ⟨es', c', hrun, hg, hlen⟩ := key
  have hx' : (execOp a.eval ⟨none, .mapUpdate t x y z, ty, pos, af, none⟩).run P w = .ok .skip { w with heap := w.heap.setIfInBounds b (mxO Ek es' c') } := by
    simp [execOp, e1, e2, e3, hrun]
  exact op_skip hx' ((h es' c' hg hlen).out ro _ _ hro.tail ⟨ok.fr, St.put st rfl rfl rfl rfl⟩)
theorem KE.int {k : IntKind} [tu : TU P kt (.int k)] [TG P kt true] : KE P kt (fun a : Int => .int k a) where
  eq := fun w a b => by
    have h : ∀ w, (Op.equalIn (9999 + 1) kt (.int k a) (.int k b)).run P w = .ok (a == b) w := fun w => re_int w 9999
    rw [show decide (a = b) = (a == b) from by by_cases e : a = b <;> simp [e]]
    exact h w
  check := fun w b k' => by
    show (Instr.checkKey b (9999 + 1) kt _).run P w = .ok () w
    unfold Instr.checkKey
    rw [Sem.run_bind, run_u, Result.andThen_ok]
    simp
  bits := fun k' => by simp [Instr.sameBits]
  und := ⟨_, tu.out, .inr fun a b => by simp [Instr.sameNow]; by_cases e : a = b <;> simp [e]⟩
end
end Go.HL
