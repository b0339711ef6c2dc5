/- Part of the proofs over this seat: see the text that holds the theorem. Conditions: each theorem bears its own. -/
import Derived.Test.YtloepfcndglmmaaDoorHTZ
import Derived.Test.YtloepfcndglmmaaDoorBS7Z
import Derived.Test.YtloepfcndglmmaaDoorHlB
import Derived.Test.YtloepfcndglmmaaDoorMT6Z
import Derived.Test.YtloepfcndglmmaaDoorMT23Z
import Derived.Test.YtloepfcndglmmaaDoorBS4Z
namespace Go.Proofs.YtloepfcndglmmaaDoor
open Go Go.HL Go.Proofs Go.HL.Kl Go.HL.Kl.Mc Go.HL.Kl.Mc.AskE
set_option maxHeartbeats 2000000 in
theorem emptiedB_fn (K : BkE) (s : BkS) (hrl : K.re.length ≤ 1000000) (hO : OwnS Esp 2 45 (.slice K.sa (K.N + 1) K.sc) s.S.cs s.Ss) (hcl : s.S.cs.length = K.N + 1) (hN : K.N ≤ 1000000) (hg7 : ∀ x ∈ K.re, x.op = 7 → 0 ≤ x.n ∧ x.n ≤ K.N) (a b : Nat) (hab : a ≤ b) (hb : b ≤ K.re.length) : HL.Fn Tryd.prog 87 [pt K.b, .int .i64 a, .int .i64 b] (fun W => K.Env W (keys ((K.b, .cells [.slice K.ra K.re.length K.rc, .slice K.ta K.w.length K.tc, .slice K.ba K.bl.length K.bc, .slice K.xa K.R.length K.xc, .slice s.fa (zeroF :: s.S.fs).length s.fc, .map (some K.bn), .map (some K.bt), .map (some K.bf), .slice K.sa (K.N + 1) K.sc, .int .i64 (s.S.fuel : Nat), .bool s.d].toArray 103 (0, 0)) :: s.Ss))) ((K.b, .cells [.slice K.ra K.re.length K.rc, .slice K.ta K.w.length K.tc, .slice K.ba K.bl.length K.bc, .slice K.xa K.R.length K.xc, .slice s.fa (zeroF :: s.S.fs).length s.fc, .map (some K.bn), .map (some K.bt), .map (some K.bf), .slice K.sa (K.N + 1) K.sc, .int .i64 (s.S.fuel : Nat), .bool s.d].toArray 103 (0, 0)) :: s.Ss) (fun v S' => ∃ la lc Sl Ss', v = .slice la (emW (K.sr.inn a b) s.S.cs).length lc ∧ S' = Sl ++ ((K.b, .cells [.slice K.ra K.re.length K.rc, .slice K.ta K.w.length K.tc, .slice K.ba K.bl.length K.bc, .slice K.xa K.R.length K.xc, .slice s.fa (zeroF :: s.S.fs).length s.fc, .map (some K.bn), .map (some K.bt), .map (some K.bf), .slice K.sa (K.N + 1) K.sc, .int .i64 (s.S.fuel : Nat), .bool s.d].toArray 103 (0, 0)) :: Ss') ∧ OwnS Esp 2 45 (.slice la (emW (K.sr.inn a b) s.S.cs).length lc) (emW (K.sr.inn a b) s.S.cs) Sl ∧ OwnS Esp 2 45 (.slice K.sa (K.N + 1) K.sc) (fgt (K.sr.inn a b) s.S.cs) Ss') := by
  refine fn_of Tryd.func87 rfl rfl rfl fun w0 hw => ?_
  have hsl := hw.d1.sl
  have hrc := hsl.cap
  have hsp := hO.sl
  rw [hcl] at hsp
  have hil : (K.sr.inn a b).length = b - a := K.sr.inn_len hb
  have hisl : IsSl (.slice (midA K.ra K.rc a 9) (K.sr.inn a b).length (K.rc - a)) (K.sr.inn a b).length := by rw [hil]; exact hsl.mid a (b - a) (by omega)
  have hrle := hsl.le
  refine cR fun _ hK1 => ?_; refine oA (oZ hK1 (cR fun _ hK2 => ?_)); refine oA (oZ hK2 (c_seq fun _ hK3 => ?_)); refine cR fun _ hK4 => ?_; refine oM ?_; refine oS sN ?_; refine oS sF ?_; refine oS sL (oM (oM ?_)); refine oS (step_cast (v' := .slice (midA K.ra K.rc a 9) (K.sr.inn a b).length (K.rc - a)) (s_slice_mid rfl rfl rfl (by omega)) (by rw [hil]; simp only [Int.toNat_natCast])) ?_; refine oS sC (oM (oZ hK4 (c_block ?_))); refine c_loop7 (fun (k : Nat) (la : Option Addr) (lc : Nat) (l : List Sp) (SL : Hp) (cs : List Sp) (SS : Hp) => k ≤ (K.sr.inn a b).length ∧ OwnS Esp 2 45 (.slice la l.length lc) l SL ∧ OwnS Esp 2 45 (.slice K.sa (K.N + 1) K.sc) cs SS ∧ cs.length = K.N + 1 ∧ l ++ emW ((K.sr.inn a b).drop k) cs = emW (K.sr.inn a b) s.S.cs ∧ fgt ((K.sr.inn a b).drop k) cs = fgt (K.sr.inn a b) s.S.cs ∧ l.length ≤ k) (fun (k : Nat) (la : Option Addr) (lc : Nat) (l : List Sp) (SL : Hp) (cs : List Sp) (SS : Hp) => [(7, .slice la l.length lc), (18, .int .i64 k)]) [(0, _), (6, _), (16, _), (17, _)] (fun (k : Nat) (la : Option Addr) (lc : Nat) (l : List Sp) (SL : Hp) (cs : List Sp) (SS : Hp) => SL ++ ((K.b, .cells [.slice K.ra K.re.length K.rc, .slice K.ta K.w.length K.tc, .slice K.ba K.bl.length K.bc, .slice K.xa K.R.length K.xc, .slice s.fa (zeroF :: s.S.fs).length s.fc, .map (some K.bn), .map (some K.bt), .map (some K.bf), .slice K.sa (K.N + 1) K.sc, .int .i64 (s.S.fuel : Nat), .bool s.d].toArray 103 (0, 0)) :: SS)) (fun (k : Nat) (la : Option Addr) (lc : Nat) (l : List Sp) (SL : Hp) (cs : List Sp) (SS : Hp) => (K.sr.inn a b).length - k) 0 none 0 [] [] s.S.cs s.Ss ⟨Nat.zero_le _, .nil, hO, hcl, rfl, rfl, Nat.le_refl _⟩ sbA sbA hzB ?_
  rintro k la lc l SL cs SS ⟨hkl, hL, hC, hcl2, hem, hfg, hlk⟩
  have hsp2 := hC.sl
  rw [hcl2] at hsp2
  refine cR fun _ hK5 => ?_
  by_cases hk : (k : Int) < (K.sr.inn a b).length
  ·obtain ⟨x, hx⟩ : ∃ x, (K.sr.inn a b)[k]? = some x := gE
   have hxm := K.sr.inn_mem (List.mem_of_getElem? hx)
   have hdk := drop_get hx
   refine oS lsT (oZ hK5 (c_seq fun _ hK6 => ?_)); refine cTZ hK6 (c_seq fun _ hK7 => ?_); refine c_block (cR fun _ hK8 => ?_); refine oS (s_idx rfl rfl hisl (by omega)) ?_; refine oS (s_ldB rfl (((RdK.old hw.d1 hw.a1).mid a b hab hb).lds k hx rfl) (by rfl)) ?_; refine o_alloc (l := En zN) (by rw [En_zero]; rfl) rfl fun b9 => ?_; refine o_stW rfl rfl upA lnA lnA onA ?_; refine oZ hK8 (cR fun _ hK9 => ?_); refine oS sF ?_; refine oS sL ?_
   by_cases h7 : x.op = 7
   ·obtain ⟨hn1, hn2⟩ := hg7 x hxm h7
    obtain ⟨y, hy⟩ : ∃ y, cs[x.n.toNat]? = some y := gE
    refine oS (eqT (h := h7)) ?_; refine oZ hK9 ?_; refine cT (c_seq fun _ hK10 => ?_); refine c_drawE ((b9, .cells (En x).toArray 80 (0, 0)) :: ((K.b, .cells [.slice K.ra K.re.length K.rc, .slice K.ta K.w.length K.tc, .slice K.ba K.bl.length K.bc, .slice K.xa K.R.length K.xc, .slice s.fa (zeroF :: s.S.fs).length s.fc, .map (some K.bn), .map (some K.bt), .map (some K.bf), .slice K.sa (K.N + 1) K.sc, .int .i64 (s.S.fuel : Nat), .bool s.d].toArray 103 (0, 0)) :: SS)) (fun i => false) ?_; refine eP 0 rfl sM ?_; refine eP 1 rfl sM ?_; refine eP 2 rfl sN ?_; refine eP 3 rfl sF ?_; refine eK 4 rfl sL ?_; refine eP 5 rfl sF ?_; refine eK 6 rfl sL ?_; refine eK 7 rfl (s_idx rfl rfl hsp2 (by omega)) ?_; refine eK 8 rfl (s_ldB rfl ((hC.rdk hiA).cels hy) lnA) ?_; refine eO 9 rfl ?_; refine o_bs (E := Esp) (xs := [y]) (vs := [_]) rfl rfl rfl rfl rfl (by decide) (by decide) fun b34 S34 hS34 => ?_; refine oX (eO 10 rfl ?_); refine o_app hL (hS34.rdk hiA) rfl rfl rfl rfl (by simp only [List.length_singleton]; omega) (by simp only [List.length_singleton]; omega) rfl pkA fun a35 c35 S35 hS35 => ?_; refine oX (eO 11 rfl (oA (oX (eZ hK10 ?_)))); refine c_drawE ((b9, .cells (En x).toArray 80 (0, 0)) :: ((K.b, .cells [.slice K.ra K.re.length K.rc, .slice K.ta K.w.length K.tc, .slice K.ba K.bl.length K.bc, .slice K.xa K.R.length K.xc, .slice s.fa (zeroF :: s.S.fs).length s.fc, .map (some K.bn), .map (some K.bt), .map (some K.bf), .slice K.sa (K.N + 1) K.sc, .int .i64 (s.S.fuel : Nat), .bool s.d].toArray 103 (0, 0)) :: SS)) (fun i => Nat.beq i 8) ?_
    refine eP 0 rfl sM ?_; refine eP 1 rfl sN ?_; refine eP 2 rfl sF ?_; refine eK 3 rfl sL ?_; refine eP 4 rfl sF ?_; refine eK 5 rfl sL ?_; refine eK 6 rfl (s_ldB (cs := Esp noS) rfl ((RdPK.old hw.g hw.ga).cels) rfl) ?_; refine eO 7 rfl ?_; refine oS (s_idx rfl rfl hsp2 (by omega)) ?_; refine oX (eO 8 rfl ?_); refine o_stSE x.n.toNat noS hC pkA rfl rfl (by omega) (by rfl) fun S' hS' => ?_; refine o_nil ?_; refine x_oneL rfl ?_; refine e_done (by kernel_rfl) ?_; refine x_block (xZ hK7 (c_region ?_)); refine oS sD (oM (o_nil ?_)); exact xI (k + 1, a35, c35, l ++ [y], S35, cs.set x.n.toNat noS, S') ⟨by dsimp only; omega, hS35, hS', by dsimp only; rw [List.length_set]; exact hcl2, by dsimp only; rw [← hem, hdk, emW_7 h7, List.getD_eq_getElem?_getD, hy, List.append_assoc]; rfl, by dsimp only; rw [← hfg, hdk, fgt_7 h7], by dsimp only; rw [List.length_append, List.length_singleton]; omega⟩
   ·refine oS (eqF (h := h7)) ?_; refine oZ hK9 ?_; refine cF (c_skip (x_block (xZ hK7 (c_region ?_)))); refine oS sD (oM (o_nil ?_)); exact xI (k + 1, la, lc, l, SL, cs, SS) ⟨by dsimp only; omega, hL, hC, hcl2, by dsimp only; rw [← hem, hdk, emW_n h7], by dsimp only; rw [← hfg, hdk, fgt_n h7], by dsimp only; omega⟩
  ·obtain rfl : k = (K.sr.inn a b).length := by omega
   refine oS lsF (oZ hK5 (c_seq fun _ hK11 => ?_)); refine cF ?_; refine c_exit ?_; refine x_then_exit (x_then_exit (x_block_exit (xZ hK3 (cR fun _ hK12 => ?_)))); refine oM (oA (oZ hK12 (c_ret ?_))); refine ?_; refine x_sub (Sub.refl _) (H' := SL ++ ((K.b, .cells [.slice K.ra K.re.length K.rc, .slice K.ta K.w.length K.tc, .slice K.ba K.bl.length K.bc, .slice K.xa K.R.length K.xc, .slice s.fa (zeroF :: s.S.fs).length s.fc, .map (some K.bn), .map (some K.bt), .map (some K.bf), .slice K.sa (K.N + 1) K.sc, .int .i64 (s.S.fuel : Nat), .bool s.d].toArray 103 (0, 0)) :: SS)) hzB ?_
   have hdn : (K.sr.inn a b).drop (K.sr.inn a b).length = [] := List.drop_length
   rw [hdn] at hem hfg
   have hem : l = emW (K.sr.inn a b) s.S.cs := by rw [← hem]; exact (List.append_nil _).symm
   have hfg : cs = fgt (K.sr.inn a b) s.S.cs := hfg
   subst hem; subst hfg
   exact xR rfl rfl (⟨la, lc, SL, SS, rfl, rfl, hL, hC⟩)
set_option maxHeartbeats 2000000 in
theorem restoreB_fn (K : BkE) (s : BkS) (hrl : K.re.length ≤ 1000000) (hO : OwnS Esp 2 45 (.slice K.sa (K.N + 1) K.sc) s.S.cs s.Ss) (hcl : s.S.cs.length = K.N + 1) (hN : K.N ≤ 1000000) (hg7 : ∀ x ∈ K.re, x.op = 7 → 0 ≤ x.n ∧ x.n ≤ K.N) (a b : Nat) (hab : a ≤ b) (hb : b ≤ K.re.length) (la : Option Addr) (lc : Nat) (l : List Sp) (SL : Hp) (hL : OwnS Esp 2 45 (.slice la l.length lc) l SL) (hl7 : l.length = nG7 (K.sr.inn a b)) : HL.Fn Tryd.prog 88 [pt K.b, .int .i64 a, .int .i64 b, .slice la l.length lc] (fun W => K.Env W (keys (SL ++ ((K.b, .cells [.slice K.ra K.re.length K.rc, .slice K.ta K.w.length K.tc, .slice K.ba K.bl.length K.bc, .slice K.xa K.R.length K.xc, .slice s.fa (zeroF :: s.S.fs).length s.fc, .map (some K.bn), .map (some K.bt), .map (some K.bf), .slice K.sa (K.N + 1) K.sc, .int .i64 (s.S.fuel : Nat), .bool s.d].toArray 103 (0, 0)) :: s.Ss)))) (SL ++ ((K.b, .cells [.slice K.ra K.re.length K.rc, .slice K.ta K.w.length K.tc, .slice K.ba K.bl.length K.bc, .slice K.xa K.R.length K.xc, .slice s.fa (zeroF :: s.S.fs).length s.fc, .map (some K.bn), .map (some K.bt), .map (some K.bf), .slice K.sa (K.N + 1) K.sc, .int .i64 (s.S.fuel : Nat), .bool s.d].toArray 103 (0, 0)) :: s.Ss)) (fun v S' => ∃ Ss', S' = ((K.b, .cells [.slice K.ra K.re.length K.rc, .slice K.ta K.w.length K.tc, .slice K.ba K.bl.length K.bc, .slice K.xa K.R.length K.xc, .slice s.fa (zeroF :: s.S.fs).length s.fc, .map (some K.bn), .map (some K.bt), .map (some K.bf), .slice K.sa (K.N + 1) K.sc, .int .i64 (s.S.fuel : Nat), .bool s.d].toArray 103 (0, 0)) :: Ss') ∧ OwnS Esp 2 45 (.slice K.sa (K.N + 1) K.sc) (rst (K.sr.inn a b) l s.S.cs) Ss') := by
  refine fn_of Tryd.func88 rfl rfl rfl fun w0 hw => ?_
  have hsl := hw.d1.sl
  have hrc := hsl.cap
  have hsp := hO.sl
  rw [hcl] at hsp
  have hil : (K.sr.inn a b).length = b - a := K.sr.inn_len hb
  have hisl : IsSl (.slice (midA K.ra K.rc a 9) (K.sr.inn a b).length (K.rc - a)) (K.sr.inn a b).length := by rw [hil]; exact hsl.mid a (b - a) (by omega)
  have hrle := hsl.le
  have hls := hL.sl
  refine cR fun _ hK1 => ?_; refine oM ?_; refine oS sN ?_; refine oS sF ?_; refine oS sL (oM (oM ?_)); refine oS (step_cast (v' := .slice (midA K.ra K.rc a 9) (K.sr.inn a b).length (K.rc - a)) (s_slice_mid rfl rfl rfl (by omega)) (by rw [hil]; simp only [Int.toNat_natCast])) ?_; refine oS sC (oM (oZ hK1 (c_block ?_))); refine c_loop6 (fun (k : Nat) (wa : Option Addr) (wc : Nat) (m : List Sp) (cs : List Sp) (SS : Hp) => k ≤ (K.sr.inn a b).length ∧ RdS Esp (.slice wa m.length wc) m SL ∧ IsSl (.slice wa m.length wc) m.length ∧ m.length = nG7 ((K.sr.inn a b).drop k) ∧ OwnS Esp 2 45 (.slice K.sa (K.N + 1) K.sc) cs SS ∧ cs.length = K.N + 1 ∧ rst ((K.sr.inn a b).drop k) m cs = rst (K.sr.inn a b) l s.S.cs) (fun (k : Nat) (wa : Option Addr) (wc : Nat) (m : List Sp) (cs : List Sp) (SS : Hp) => [(3, .slice wa m.length wc), (18, .int .i64 k)]) [(0, _), (16, _), (17, _)] (fun (k : Nat) (wa : Option Addr) (wc : Nat) (m : List Sp) (cs : List Sp) (SS : Hp) => SL ++ ((K.b, .cells [.slice K.ra K.re.length K.rc, .slice K.ta K.w.length K.tc, .slice K.ba K.bl.length K.bc, .slice K.xa K.R.length K.xc, .slice s.fa (zeroF :: s.S.fs).length s.fc, .map (some K.bn), .map (some K.bt), .map (some K.bf), .slice K.sa (K.N + 1) K.sc, .int .i64 (s.S.fuel : Nat), .bool s.d].toArray 103 (0, 0)) :: SS)) (fun (k : Nat) (wa : Option Addr) (wc : Nat) (m : List Sp) (cs : List Sp) (SS : Hp) => (K.sr.inn a b).length - k) 0 la lc l s.S.cs s.Ss ⟨Nat.zero_le _, hL.rds, hls, hl7, hO, hcl, rfl⟩ sbA sbA hzB ?_
  rintro k wa wc m cs SS ⟨hkl, hM, hms, hmg, hC, hcl2, hrs⟩
  have hsp2 := hC.sl
  rw [hcl2] at hsp2
  refine cR fun _ hK2 => ?_
  by_cases hk : (k : Int) < (K.sr.inn a b).length
  ·obtain ⟨x, hx⟩ : ∃ x, (K.sr.inn a b)[k]? = some x := gE
   have hxm := K.sr.inn_mem (List.mem_of_getElem? hx)
   have hdk := drop_get hx
   refine oS lsT (oZ hK2 (c_seq fun _ hK3 => ?_)); refine cTZ hK3 (c_seq fun _ hK4 => ?_); refine c_block (cR fun _ hK5 => ?_); refine oS (s_idx rfl rfl hisl (by omega)) ?_; refine oS (s_ldB rfl (((RdK.old hw.d1 hw.a1).mid a b hab hb).lds k hx rfl) (by rfl)) ?_; refine o_alloc (l := En zN) (by rw [En_zero]; rfl) rfl fun b9 => ?_; refine o_stW rfl rfl upA lnA lnA onA ?_; refine oZ hK5 (cR fun _ hK6 => ?_); refine oS sF ?_; refine oS sL ?_
   by_cases h7 : x.op = 7
   ·obtain ⟨hn1, hn2⟩ := hg7 x hxm h7
    obtain ⟨y, m, rfl⟩ : ∃ y m2, m = y :: m2 := by cases m with | nil => rw [hdk, nG7_7 h7] at hmg; simp at hmg | cons y m2 => exact ⟨y, m2, rfl⟩
    refine oS (eqT (h := h7)) ?_; refine oZ hK6 ?_; refine cT (c_seq fun _ hK7 => ?_); refine c_drawE ((b9, .cells (En x).toArray 80 (0, 0)) :: (SL ++ ((K.b, .cells [.slice K.ra K.re.length K.rc, .slice K.ta K.w.length K.tc, .slice K.ba K.bl.length K.bc, .slice K.xa K.R.length K.xc, .slice s.fa (zeroF :: s.S.fs).length s.fc, .map (some K.bn), .map (some K.bt), .map (some K.bf), .slice K.sa (K.N + 1) K.sc, .int .i64 (s.S.fuel : Nat), .bool s.d].toArray 103 (0, 0)) :: SS))) (fun i => Nat.beq i 10) ?_; refine eP 0 rfl sM ?_; refine eP 1 rfl sN ?_; refine eP 2 rfl sF ?_; refine eK 3 rfl sL ?_; refine eP 4 rfl sF ?_; refine eK 5 rfl sL ?_; refine eP 6 rfl sM ?_; refine eK 7 rfl (s_idx rfl rfl hms (by rw [List.length_cons]; omega)) ?_; refine eK 8 rfl (s_ldB rfl ((hM.rdk hiA).cels (i := 0) rfl) lnA) ?_; refine eO 9 rfl ?_; refine oS (s_idx rfl rfl hsp2 (by omega)) ?_; refine oX (eO 10 rfl ?_); refine o_stSE x.n.toNat y hC pkA rfl rfl (by omega) (by rfl) fun S' hS' => ?_; refine o_nil ?_; refine x_oneL rfl ?_; refine eZ hK7 (c_region (oM ?_)); refine oS (step_cast (v' := .slice (midA wa wc 1 2) m.length (wc - 1)) (s_slice_lo rfl rfl (by have := hms.cap; rw [List.length_cons] at this ⊢; omega)) (by rw [List.length_cons]; rfl)) ?_; refine oA (o_nil (x_block (xZ hK4 (c_region ?_)))); refine oS sD ?_
    refine oM (o_nil ?_); exact xI (k + 1, midA wa wc 1 2, wc - 1, m, cs.set x.n.toNat y, S') ⟨by dsimp only; omega, hM.tail, (by have := hms.mid (k := 2) 1 m.length (by rw [List.length_cons]; omega); exact this), by dsimp only; rw [hdk, nG7_7 h7, List.length_cons] at hmg; omega, hS', by dsimp only; rw [List.length_set]; exact hcl2, by dsimp only; rw [← hrs, hdk, rst_7 h7]⟩
   ·refine oS (eqF (h := h7)) ?_; refine oZ hK6 ?_; refine cF (c_skip (x_block (xZ hK4 (c_region ?_)))); refine oS sD (oM (o_nil ?_)); exact xI (k + 1, wa, wc, m, cs, SS) ⟨by dsimp only; omega, hM, hms, by dsimp only; rw [hdk, nG7_n h7] at hmg; exact hmg, hC, hcl2, by dsimp only; rw [← hrs, hdk, rst_n h7]⟩
  ·obtain rfl : k = (K.sr.inn a b).length := by omega
   refine oS lsF (oZ hK2 (c_seq fun _ hK8 => ?_)); refine cF ?_; refine c_exit ?_; refine x_then_exit (x_then_exit (x_block_exit ?_)); refine x_sub (Sub.refl _) (H' := ((K.b, .cells [.slice K.ra K.re.length K.rc, .slice K.ta K.w.length K.tc, .slice K.ba K.bl.length K.bc, .slice K.xa K.R.length K.xc, .slice s.fa (zeroF :: s.S.fs).length s.fc, .map (some K.bn), .map (some K.bt), .map (some K.bf), .slice K.sa (K.N + 1) K.sc, .int .i64 (s.S.fuel : Nat), .bool s.d].toArray 103 (0, 0)) :: SS)) hzB ?_
   have hdn : (K.sr.inn a b).drop (K.sr.inn a b).length = [] := List.drop_length
   rw [hdn] at hrs
   have hrs : cs = rst (K.sr.inn a b) l s.S.cs := hrs
   subst hrs; exact x_end rfl (.nil) (⟨SS, rfl, hC⟩)
end Go.Proofs.YtloepfcndglmmaaDoor
namespace Go.HL.Kl.Mc
open Go Go.HL Go.HL.Kl AskE
def SpOk (K : SrE) (s : Sp) : Prop := s = noS ∨ (0 ≤ s.fr ∧ s.fr ≤ s.to ∧ s.to ≤ K.w.length)
def FrOk (K : SrE) (f : Frm) : Prop := ∃ x ks e, Part K.re (.nd x ks .nil) f.node e ∧ f.to ≤ K.w.length ∧ ((x.op = 4 ∧ ∃ g e2, Part K.re g f.kid e2 ∧ g.num = f.left) ∨ (x.op = 6 ∧ f.kid ≤ 255) ∨ (x.op = 7 ∧ f.fr ≤ f.to))
structure Fin (K : SrE) (S : SS) : Prop where
  fr : ∀ f ∈ S.fs, FrOk K f
  ch : Chn S.fs
  sp : ∀ s ∈ S.cs, SpOk K s
structure Gr (S S' : SS) : Prop where
  fs : S.fs.length ≤ S'.fs.length
  ts : S.ts.length ≤ S'.ts.length
  fuel : S'.fuel ≤ S.fuel
  cs : S'.cs.length = S.cs.length
theorem Gr.refl {S : SS} : Gr S S := ⟨Nat.le_refl _, Nat.le_refl _, Nat.le_refl _, rfl⟩
theorem Gr.trans {S S1 S2 : SS} (h : Gr S S1) (h' : Gr S1 S2) : Gr S S2 := ⟨Nat.le_trans h.fs h'.fs, Nat.le_trans h.ts h'.ts, Nat.le_trans h'.fuel h.fuel, h'.cs.trans h.cs⟩
theorem push_gr {S S1 : SS} {f : Frm} {u : Nat} (h : S.push f = (u, S1)) : Gr S S1 := by
  cases hf : fnd f S.fs with
  | some k => rw [push_some hf] at h; cases h; exact .refl
  | none => rw [push_none hf] at h; cases h; exact ⟨by simp, Nat.le_refl _, Nat.le_refl _, rfl⟩
theorem code_gr {K : SrE} {S : SS} : Gr S (K.code S).2 := by
  refine ⟨Nat.le_refl _, ?_, Nat.le_refl _, rfl⟩
  have : ∀ (hs : List (List Sp)) (ts : List Tk) (n : Nat), ts.length ≤ (stG ts n hs).2.length := by
    intro hs
    induction hs with
    | nil => intro ts n; exact Nat.le_refl _
    | cons h r ih =>
      intro ts n
      unfold stG
      split
      · exact ih _ _
      · have := ih (ts ++ [⟨n, h⟩]) (ts.length + 1)
        rw [List.length_append] at this
        exact Nat.le_trans (Nat.le_add_right _ _) this
  exact this _ _ _
theorem rst_len : ∀ (l : List Nd) (was cs : List Sp), (rst l was cs).length = cs.length
  | [], _, _ => rfl
  | x :: l, was, cs => by
    unfold rst
    split
    · rw [rst_len l, List.length_set]
    · exact rst_len l _ _
theorem fail_gr {S : SS} {b : Bool} {p : Pt} : Gr S (S.fail b p) := by
  cases b
  · exact ⟨Nat.le_refl _, Nat.le_refl _, Nat.le_refl _, rfl⟩
  · exact .refl
theorem tick_gr {S : SS} : Gr S S.tick := ⟨Nat.le_refl _, Nat.le_refl _, Nat.sub_le _ _, rfl⟩
theorem cs_gr {S : SS} {c : List Sp} (h : c.length = S.cs.length) : Gr S { S with cs := c } := ⟨Nat.le_refl _, Nat.le_refl _, Nat.le_refl _, h⟩
theorem Ev.mono {K : SrE} {S S' : SS} {q : SQ} {b : Bool} (h : Ev K S q b S') : Gr S S' := by
  induction h with
  | takeNo hx hf ho hg => exact tick_gr
  | takeYes hx hf ho hg h ih => exact tick_gr.trans ih
  | takeAlt hx hf ho h ih => exact tick_gr.trans ih
  | takeCat hx hf ho hp h ih => exact tick_gr.trans ((push_gr hp).trans ih)
  | takeRep hx hf ho hp h ih => exact tick_gr.trans ((push_gr hp).trans ih)
  | takeGrpY hx hf ho hp h ih => exact tick_gr.trans ((cs_gr (fgt_len _ _)).trans ((push_gr hp).trans ih))
  | takeGrpN hx hf ho hp h ih => exact tick_gr.trans ((cs_gr (fgt_len _ _)).trans ((push_gr hp).trans (ih.trans (cs_gr (rst_len _ _ _)))))
  | altNil => exact .refl
  | altYes h ih => exact ih
  | altNo h h' ih ih' => exact ih.trans ih'
  | nextZero => exact .refl
  | nextMemo h => exact code_gr
  | @nextGo S S2 k at_ f b hn hf h ih =>
    have g := ih.trans (fail_gr (b := b) (p := ⟨k + 1, at_, (K.code S).1⟩))
    exact (code_gr (K := K) (S := S)).trans ⟨g.fs, g.ts, g.fuel, g.cs⟩
  | bodyCat hx ho h ih => exact ih
  | bodyRep hx ho h ih => exact ih
  | bodyGrpY hx h4 h6 h ih => exact (cs_gr (List.length_set ..)).trans ih
  | bodyGrpN hx h4 h6 h ih => exact (cs_gr (List.length_set ..)).trans (ih.trans (cs_gr (List.length_set ..)))
  | rowZN hl he => exact .refl
  | rowZ hl he h ih => exact ih
  | rowS hl hp h ih => exact (push_gr hp).trans ih
  | rowLNil => exact .refl
  | rowLYes h ih => exact ih
  | rowLLast hl h ih => exact ih
  | rowLNo hl h h' ih ih' => exact ih.trans ih'
  | rndYes hx hm hp h ih => exact (push_gr hp).trans ih
  | rndEnd hx hm hp h he h' ih ih' => exact (push_gr hp).trans (ih.trans ih')
  | rndNo hx hm hp h he ih => exact (push_gr hp).trans ih
  | rnd0End hx hm he h' ih' => exact ih'
  | rnd0No hx hm he => exact .refl
  | rndLNil => exact .refl
  | rndLBrk hx hb => exact .refl
  | rndLYes hx hb h ih => exact (cs_gr (fgt_len _ _)).trans ih
  | rndLNo hx hb h h' ih ih' => exact (cs_gr (fgt_len _ _)).trans (ih.trans ((cs_gr (rst_len _ _ _)).trans ih'))
/-! the runs, turned round -/
section
variable {K : SrE} {S S' : SS} {b : Bool}
end
/-! what is well keeps well -/
theorem Fin.push {K : SrE} {S S1 : SS} {f : Frm} {u : Nat} (h : Fin K S) (hf : FrOk K f) (hu : f.up ≤ S.fs.length) (hp : S.push f = (u, S1)) : Fin K S1 ∧ 1 ≤ u ∧ u ≤ S1.fs.length := by
  cases hq : fnd f S.fs with
  | some k =>
    rw [push_some hq] at hp
    cases hp
    exact ⟨h, by omega, (List.getElem?_eq_some_iff.1 (fnd_some hq)).1⟩
  | none =>
    rw [push_none hq] at hp
    cases hp
    exact ⟨⟨fun g hg => (List.mem_append.1 hg).elim (h.fr g) fun e => by rw [List.mem_singleton.1 e]; exact hf, h.ch.snoc hu, h.sp⟩, by omega, by simp⟩
theorem emW_ok {P : Sp → Prop} (h0 : P noS) : ∀ (l : List Nd) (cs : List Sp), (∀ s ∈ cs, P s) → ∀ s ∈ emW l cs, P s
  | [], _, _, _, h => by cases h
  | x :: l, cs, hc, s, h => by
    by_cases h7 : x.op = 7
    · rw [emW_7 h7] at h
      rcases List.mem_cons.1 h with rfl | h
      · rw [List.getD_eq_getElem?_getD]
        cases e : cs[x.n.toNat]? with
        | none => exact h0
        | some y => exact hc y (List.mem_of_getElem? e)
      · exact emW_ok h0 l _ (fun y hy => (List.mem_or_eq_of_mem_set hy).elim (hc y) fun e => by rw [e]; exact h0) s h
    · rw [emW_n h7] at h; exact emW_ok h0 l cs hc s h
theorem fgt_ok {P : Sp → Prop} (h0 : P noS) : ∀ (l : List Nd) (cs : List Sp), (∀ s ∈ cs, P s) → ∀ s ∈ fgt l cs, P s
  | [], _, hc, s, h => hc s h
  | x :: l, cs, hc, s, h => by
    by_cases h7 : x.op = 7
    · rw [fgt_7 h7] at h
      exact fgt_ok h0 l _ (fun y hy => (List.mem_or_eq_of_mem_set hy).elim (hc y) fun e => by rw [e]; exact h0) s h
    · rw [fgt_n h7] at h; exact fgt_ok h0 l cs hc s h
theorem rst_ok {P : Sp → Prop} (h0 : P noS) : ∀ (l : List Nd) (was cs : List Sp), (∀ s ∈ was, P s) → (∀ s ∈ cs, P s) → ∀ s ∈ rst l was cs, P s
  | [], _, _, _, hc, s, h => hc s h
  | x :: l, was, cs, hw, hc, s, h => by
    unfold rst at h
    split at h
    · refine rst_ok h0 l _ _ (fun y hy => hw y (List.mem_of_mem_tail hy)) (fun y hy => (List.mem_or_eq_of_mem_set hy).elim (hc y) fun e => ?_) s h
      rw [e]
      cases was with
      | nil => exact h0
      | cons a l => exact hw a List.mem_cons_self
    · exact rst_ok h0 l _ _ hw hc s h
theorem Fin.fgt {K : SrE} {S : SS} (h : Fin K S) (l : List Nd) : Fin K { S with cs := Mc.fgt l S.cs } := ⟨h.fr, h.ch, fgt_ok (.inl rfl) l _ h.sp⟩
theorem Fin.rst {K : SrE} {S : SS} (h : Fin K S) (l : List Nd) {was : List Sp} (hw : ∀ s ∈ was, SpOk K s) : Fin K { S with cs := Mc.rst l was S.cs } := ⟨h.fr, h.ch, rst_ok (.inl rfl) l _ _ hw h.sp⟩
theorem Fin.set {K : SrE} {S : SS} (h : Fin K S) (n : Nat) {x : Sp} (hx : SpOk K x) : Fin K { S with cs := S.cs.set n x } := ⟨h.fr, h.ch, fun s hs => (List.mem_or_eq_of_mem_set hs).elim (h.sp s) fun e => by rw [e]; exact hx⟩
def dwn (p : Nat) (e : Int) : List Nat := down p (e + 1 - p).toNat
theorem dwn_ends {p q : Nat} : dwn p q = ends p q := by unfold dwn ends; congr 1; omega
theorem dwn_nil {p : Nat} {e : Int} (h : ¬ e ≥ p) : dwn p e = [] := by unfold dwn; rw [show (e + 1 - (p : Int)).toNat = 0 by omega]; rfl
theorem dwn_cons {p : Nat} {e : Nat} (h : p ≤ e) : dwn p e = e :: dwn p ((e : Int) - 1) := by
  unfold dwn
  rw [show ((e : Int) + 1 - (p : Int)).toNat = (e - p) + 1 by omega, down, show ((e : Int) - 1 + 1 - (p : Int)).toNat = e - p by omega]
  congr 1; omega
end Go.HL.Kl.Mc
namespace Go.HL.Kl.Mc
open Go Go.HL Go.HL.Kl AskE
def satM (x : Nd) : Nat := if x.mx < 0 then max x.mn.toNat 1 else x.mx.toNat
def potF (n : Nat) : F → Nat
  | .nil => 0
  | .nd x ks r => (if x.op = 6 then (n + 1) * (satM x + 1) * (potF n ks + 2) + 2 else potF n ks + 2) + potF n r
def rlN (x : Nd) (f : Frm) (at_ : Nat) : Nat := (f.to - at_) * (satM x + 1) + (satM x - f.kid)
namespace SrE
variable (K : SrE)
noncomputable def rkF (fs : List Frm) : Nat → Nat → Nat → Nat
  | 0, _, _ => 0
  | n + 1, u, at_ => if u = 0 then 0 else match fs[u - 1]? with
    | none => 0
    | some f => match K.re[f.node]? with
      | none => 0
      | some x =>
        if x.op = 4 then potF K.w.length (foAt K.re f.kid f.left) + 1 + rkF fs n f.up f.to
        else if x.op = 6 then rlN x f at_ * (potF K.w.length (foAt K.re (f.node + 1) 1) + 2) + 1 + rkF fs n f.up f.to
        else 1 + rkF fs n f.up at_
noncomputable def rk (fs : List Frm) (u at_ : Nat) : Nat := K.rkF fs u u at_
variable {K : SrE}
theorem rkF_up {fs : List Frm} (hc : Chn fs) : ∀ (u n : Nat), u ≤ n → ∀ (at_ : Nat), K.rkF fs n u at_ = K.rkF fs u u at_ := by
  intro u
  induction u using Nat.strongRecOn with
  | ind u ih =>
    intro n hn at_
    cases u with
    | zero => cases n <;> simp [rkF]
    | succ k =>
      obtain ⟨m, rfl⟩ : ∃ m, n = m + 1 := ⟨n - 1, by omega⟩
      rw [rkF, rkF]
      simp only [Nat.add_one_ne_zero, if_false, Nat.add_sub_cancel]
      cases hf : fs[k]? with
      | none => rfl
      | some f =>
        have hu := hc k f hf
        have e2 : K.rkF fs m f.up = K.rkF fs k f.up := by
          funext a
          rw [ih f.up (by omega) m (by omega), ih f.up (by omega) k hu]
        simp only [e2]
theorem rk_succ {fs : List Frm} (hc : Chn fs) {k : Nat} {f : Frm} {x : Nd} (hf : fs[k]? = some f) (hx : K.re[f.node]? = some x) {at_ : Nat} : K.rk fs (k + 1) at_ =
    (if x.op = 4 then potF K.w.length (foAt K.re f.kid f.left) + 1 + K.rk fs f.up f.to
    else if x.op = 6 then rlN x f at_ * (potF K.w.length (foAt K.re (f.node + 1) 1) + 2) + 1 + K.rk fs f.up f.to
    else 1 + K.rk fs f.up at_) := by
  have e : K.rkF fs k f.up = K.rk fs f.up := by funext a; exact rkF_up hc f.up k (hc k f hf) a
  unfold rk at e ⊢
  rw [rkF]
  simp only [Nat.add_one_ne_zero, if_false, Nat.add_sub_cancel, hf, hx, e]
theorem rk_ext {fs gs : List Frm} (hc : Chn fs) (hc' : Chn (fs ++ gs)) : ∀ (u : Nat), u ≤ fs.length → ∀ (at_ : Nat), K.rk (fs ++ gs) u at_ = K.rk fs u at_ := by
  intro u
  induction u using Nat.strongRecOn with
  | ind u ih =>
    intro hu at_
    cases u with
    | zero => rfl
    | succ k =>
      have hk : fs[k]? = some fs[k] := List.getElem?_eq_getElem (by omega)
      have hk' : (fs ++ gs)[k]? = some fs[k] := by rw [List.getElem?_append_left (by omega)]; exact hk
      have hup := hc k _ hk
      cases hx : K.re[(fs[k]).node]? with
      | none =>
        unfold rk
        rw [rkF, rkF]
        simp only [Nat.add_one_ne_zero, if_false, Nat.add_sub_cancel, hk, hk', hx]
      | some x =>
        have e : K.rk (fs ++ gs) (fs[k]).up = K.rk fs (fs[k]).up := by funext a; exact ih _ (by omega) (by omega) a
        rw [rk_succ hc' hk' hx, rk_succ hc hk hx, e]
end SrE
noncomputable def SrE.cst (K : SrE) (f : Frm) : Nat := match K.re[f.node]? with
  | none => 0
  | some x => if x.op = 4 then (if f.left = 0 then 0 else (K.w.length + 1) * (foAt K.re f.kid 1).size) else if x.op = 6 then (K.w.length + 1) * (foAt K.re (f.node + 1) 1).size else 0
noncomputable def SrE.cstP (K : SrE) (fs : List Frm) (p : Pt) : Nat := match fs[p.u - 1]? with
  | none => 0
  | some f => K.cst f
/-! where a tree lies among others -/
def RestAt : F → Nat → Nat → F → Prop
  | .nil, p, q, g => p = q ∧ g = .nil
  | .nd y js r, p, q, g => (p = q ∧ g = .nd y js r) ∨ RestAt r (p + 1 + js.size) q g
theorem RestAt.refl : ∀ {f : F} {p : Nat}, RestAt f p p f
  | .nil, _ => ⟨rfl, rfl⟩
  | .nd _ _ _, _ => .inl ⟨rfl, rfl⟩
theorem RestAt.next : ∀ {f : F} {p q : Nat} {y : Nd} {js r : F}, RestAt f p q (.nd y js r) → RestAt f p (q + 1 + js.size) r
  | .nil, _, _, _, _, _, h => by cases h.2
  | .nd z ks s, p, q, y, js, r, h => by
    rcases h with ⟨rfl, h⟩ | h
    · cases h
      exact .inr RestAt.refl
    · exact .inr h.next
inductive AltR (re : List Nd) (s : Nat) : Nat → Prop
  | refl : AltR re s s
  | step {b q e : Nat} {x y : Nd} {ks js r : F} (h : AltR re s b) (hp : Part re (.nd x ks .nil) b e) (ho : x.op = 5) (hr : RestAt ks (b + 1) q (.nd y js r)) : AltR re s q
def Slot (K : SrE) (g : Frm) (s : Nat) : Prop := ∃ x ks e, Part K.re (.nd x ks .nil) g.node e ∧ ((x.op = 4 ∧ ∃ y js r, RestAt ks (g.node + 1) s (.nd y js r) ∧ g.kid = s + 1 + js.size ∧ g.left = r.num ∧ g.fr = 0) ∨ ((x.op = 6 ∧ 1 ≤ g.kid ∨ x.op = 7) ∧ s = g.node + 1))
def UpAt (K : SrE) (fs : List Frm) (up a : Nat) : Prop := ∃ s, ((up = 0 ∧ s = 0) ∨ ∃ k g, up = k + 1 ∧ fs[k]? = some g ∧ Slot K g s) ∧ AltR K.re s a
def ShOk (K : SrE) (f : Frm) : Prop := ∃ x ks e, Part K.re (.nd x ks .nil) f.node e ∧ f.to ≤ K.w.length ∧ f.fr ≤ K.w.length ∧
  ((x.op = 4 ∧ ∃ g, RestAt ks (f.node + 1) f.kid g ∧ g.num = f.left ∧ (f.fr = 0 ∨ (f.kid = f.node + 1 ∧ f.left = ks.num))) ∨ (x.op = 6 ∧ f.kid ≤ satM x ∧ f.left = 0 ∧ f.fr = 0) ∨ (x.op = 7 ∧ f.kid = 0 ∧ f.left = 0))
def FrU (K : SrE) (fs : List Frm) (f : Frm) : Prop := ShOk K f ∧ UpAt K fs f.up f.node
theorem UpAt.ext {K : SrE} {fs gs : List Frm} {up a : Nat} (h : UpAt K fs up a) : UpAt K (fs ++ gs) up a := by
  obtain ⟨s, h1, h2⟩ := h
  refine ⟨s, ?_, h2⟩
  rcases h1 with h1 | ⟨k, g, h3, h4, h5⟩
  · exact .inl h1
  · exact .inr ⟨k, g, h3, by rw [List.getElem?_append_left (List.getElem?_eq_some_iff.1 h4).1]; exact h4, h5⟩
theorem FrU.ext {K : SrE} {fs gs : List Frm} {f : Frm} (h : FrU K fs f) : FrU K (fs ++ gs) f := ⟨h.1, h.2.ext⟩
structure FrsOk (K : SrE) (S : SS) : Prop where
  fr : ∀ f ∈ S.fs, FrOk K f
  ch : Chn S.fs
  sp : ∀ s ∈ S.cs, SpOk K s
  nd : S.ts.Nodup
  up : ∀ f ∈ S.fs, FrU K S.fs f
  fn : S.fs.Nodup
theorem FrsOk.cs {K : SrE} {S S' : SS} (h : FrsOk K S) (h1 : S'.fs = S.fs) (h2 : S'.ts = S.ts) (h3 : ∀ s ∈ S'.cs, SpOk K s) : FrsOk K S' := ⟨by rw [h1]; exact h.fr, by rw [h1]; exact h.ch, h3, by rw [h2]; exact h.nd, by rw [h1]; exact h.up, by rw [h1]; exact h.fn⟩
def PtOk (K : SrE) (S : SS) (p : Pt) : Prop := 1 ≤ p.u ∧ p.u ≤ S.fs.length ∧ p.at_ ≤ K.w.length ∧ ∃ cs : List Sp, (∀ s ∈ cs, SpOk K s) ∧ Dec S.ts 0 (chunks (K.proj cs)) p.tk
def Gd (K : SrE) (S S' : SS) (bd fc : Nat) (b : Bool) : Prop :=
  FrsOk K S' ∧ (∃ a, S'.fs = S.fs ++ a) ∧ (∃ a, S'.ts = S.ts ++ a) ∧ ∃ T N : List Pt, (b = false → T = []) ∧ S'.F = N ++ S.F ∧ (∀ p ∈ T ++ N, PtOk K S' p ∧ K.rk S'.fs p.u p.at_ < bd) ∧ (S.F.Nodup → (T ++ (N ++ S.F)).Nodup) ∧
    S.fuel ≤ S'.fuel + fc + ((T ++ N).map (K.cstP S'.fs)).sum
section
variable {K : SrE} {S S0 S1 S' : SS} {bd bd' fc fc' k : Nat} {b : Bool}
theorem Gd.mono (h : Gd K S S' bd fc b) (h1 : bd ≤ bd') (h2 : fc ≤ fc') : Gd K S S' bd' fc' b := by
  obtain ⟨a1, a2, a8, T, N, a3, a4, a5, a6, a7⟩ := h
  exact ⟨a1, a2, a8, T, N, a3, a4, fun p hp => ⟨(a5 p hp).1, Nat.lt_of_lt_of_le (a5 p hp).2 h1⟩, a6, by omega⟩
theorem Gd.reflT (h : FrsOk K S) (bd : Nat) (b : Bool) : Gd K S S bd 0 b := ⟨h, ⟨[], by simp⟩, ⟨[], by simp⟩, [], [], fun _ => rfl, rfl, fun p hp => (by cases hp), fun h => h, by simp⟩
theorem Gd.refl (h : FrsOk K S) (bd : Nat) : Gd K S S bd 0 false := Gd.reflT h bd false
theorem cstP_ext {fs gs : List Frm} {p : Pt} (h : 1 ≤ p.u ∧ p.u ≤ fs.length) : K.cstP (fs ++ gs) p = K.cstP fs p := by
  unfold SrE.cstP
  rw [List.getElem?_append_left (by have := h.1; have := h.2; omega)]
theorem map_cst_ext {fs gs : List Frm} {l : List Pt} (h : ∀ p ∈ l, 1 ≤ p.u ∧ p.u ≤ fs.length) : l.map (K.cstP (fs ++ gs)) = l.map (K.cstP fs) := List.map_congr_left fun p hp => cstP_ext (h p hp)
theorem PtOk.ext {p : Pt} (h : PtOk K S p) (h1 : ∃ a, S'.fs = S.fs ++ a) (h2 : ∃ a, S'.ts = S.ts ++ a) : PtOk K S' p := by
  obtain ⟨a1, a2, a3, cs, a4, a5⟩ := h
  obtain ⟨a, ha⟩ := h1
  obtain ⟨e, he⟩ := h2
  exact ⟨a1, by rw [ha, List.length_append]; omega, a3, cs, a4, by rw [he]; exact a5.mono⟩
theorem Gd.trans (h : Gd K S S1 bd fc false) (h' : Gd K S1 S' bd fc' b) : Gd K S S' bd (fc + fc') b := by
  obtain ⟨a1, ⟨x, hx⟩, ⟨z, hz⟩, T, N, a3, a4, a5, a6, a7⟩ := h
  obtain ⟨b1, ⟨y, hy⟩, ⟨v, hv⟩, T2, N2, b3, b4, b5, b6, b7⟩ := h'
  obtain rfl := a3 rfl
  have hc' := b1.ch
  rw [hy] at hc'
  have a5' : ∀ p ∈ N, PtOk K S1 p := fun p hp => (a5 p (by simpa using hp)).1
  refine ⟨b1, ⟨x ++ y, by rw [hy, hx, List.append_assoc]⟩, ⟨z ++ v, by rw [hv, hz, List.append_assoc]⟩, T2, N2 ++ N, b3, by rw [b4, a4, List.append_assoc], fun p hp => ?_, fun hn => ?_, ?_⟩
  · rcases List.mem_append.1 hp with hp | hp
    · exact b5 p (List.mem_append_left _ hp)
    rcases List.mem_append.1 hp with hp | hp
    · exact b5 p (List.mem_append_right _ hp)
    · obtain ⟨c1, c2⟩ := a5 p (by simpa using hp)
      exact ⟨c1.ext ⟨y, hy⟩ ⟨v, hv⟩, by rw [hy, SrE.rk_ext a1.ch hc' _ c1.2.1]; exact c2⟩
  · have := b6 (by rw [a4]; simpa using a6 hn)
    rw [a4] at this
    simpa [List.append_assoc] using this
  · rw [← List.append_assoc, List.map_append, List.sum_append]
    have e1 : N.map (K.cstP S'.fs) = N.map (K.cstP S1.fs) := by rw [hy]; exact map_cst_ext fun p hp => ⟨(a5' p hp).1, (a5' p hp).2.1⟩
    rw [e1]
    simp only [List.nil_append] at a7
    omega
theorem Gd.preT (h : Gd K S S' bd fc b) (hf : ∃ a, S.fs = S0.fs ++ a) (ht : ∃ a, S.ts = S0.ts ++ a) (hF : S.F = S0.F) (hk : S0.fuel ≤ S.fuel + k) : Gd K S0 S' bd (fc + k) b := by
  obtain ⟨a1, ⟨x, hx⟩, ⟨z, hz⟩, T, N, a3, a4, a5, a6, a7⟩ := h
  obtain ⟨a, ha⟩ := hf
  obtain ⟨e, he⟩ := ht
  exact ⟨a1, ⟨a ++ x, by rw [hx, ha, List.append_assoc]⟩, ⟨e ++ z, by rw [hz, he, List.append_assoc]⟩, T, N, a3, by rw [a4, hF], a5, by rw [← hF]; exact a6, by omega⟩
theorem Gd.pre (h : Gd K S S' bd fc b) (hf : ∃ a, S.fs = S0.fs ++ a) (ht : S.ts = S0.ts) (hF : S.F = S0.F) (hk : S0.fuel ≤ S.fuel + k) : Gd K S0 S' bd (fc + k) b := h.preT hf ⟨[], by rw [ht]; simp⟩ hF hk
theorem Gd.post (h : Gd K S S1 bd fc b) (hs : ∀ s ∈ S'.cs, SpOk K s) (h1 : S'.fs = S1.fs) (h2 : S'.F = S1.F) (h3 : S'.fuel = S1.fuel) (h4 : S'.ts = S1.ts) : Gd K S S' bd fc b := by
  obtain ⟨a1, a2, ⟨z, hz⟩, T, N, a3, a4, a5, a6, a7⟩ := h
  exact ⟨a1.cs h1 h4 hs, by rw [h1]; exact a2, ⟨z, by rw [h4, hz]⟩, T, N, a3, by rw [h2]; exact a4, fun p hp => ⟨(a5 p hp).1.ext ⟨[], by rw [h1]; simp⟩ ⟨[], by rw [h4]; simp⟩, by rw [h1]; exact (a5 p hp).2⟩, a6, by rw [h1, h3]; exact a7⟩
end
end Go.HL.Kl.Mc
namespace Go.HL.Kl.Mc
open Go Go.HL Go.HL.Kl AskE
noncomputable def SrE.fRk (K : SrE) (fs : List Frm) (f : Frm) (at_ : Nat) : Nat := match K.re[f.node]? with
  | none => 0
  | some x => if x.op = 4 then potF K.w.length (foAt K.re f.kid f.left) + 1 + K.rk fs f.up f.to
    else if x.op = 6 then rlN x f at_ * (potF K.w.length (foAt K.re (f.node + 1) 1) + 2) + 1 + K.rk fs f.up f.to
    else 1 + K.rk fs f.up at_
noncomputable def bdQ (K : SrE) (fs : List Frm) : SQ → Nat
  | .take at_ _ j up => potF K.w.length (foAt K.re at_ 1) + K.rk fs up j
  | .alt kid left _ j up => potF K.w.length (foAt K.re kid left) + K.rk fs up j
  | .next u at_ => K.rk fs u at_ + 1
  | .body f at_ => K.fRk fs f at_
  | .row f at_ => K.fRk fs f at_
  | .rowL f _ at_ _ => K.fRk fs f at_
  | .rnd f at_ => K.fRk fs f at_
  | .rndL f _ at_ _ => K.fRk fs f at_
noncomputable def fcQ (K : SrE) : SQ → Nat
  | .take at_ _ _ _ => (foAt K.re at_ 1).size
  | .alt kid left _ _ _ => (foAt K.re kid left).size
  | .next _ _ => 0
  | .body f _ => K.cst f
  | .row f _ => K.cst f
  | .rowL f _ _ es => es.length * (foAt K.re f.kid 1).size
  | .rnd f _ => K.cst f
  | .rndL f _ _ es => es.length * (foAt K.re (f.node + 1) 1).size
def LgQ (K : SrE) (S : SS) : SQ → Prop
  | .take at_ i j up => (∃ x ks e, Part K.re (.nd x ks .nil) at_ e) ∧ i ≤ j ∧ j ≤ K.w.length ∧ up ≤ S.fs.length ∧ UpAt K S.fs up at_
  | .alt kid left i j up => (∃ g e, Part K.re g kid e ∧ g.num = left ∧ ∀ q y js r, RestAt g kid q (.nd y js r) → UpAt K S.fs up q) ∧ i ≤ j ∧ j ≤ K.w.length ∧ up ≤ S.fs.length
  | .next u at_ => u ≤ S.fs.length ∧ at_ ≤ K.w.length
  | .body f at_ => (FrOk K f ∧ FrU K S.fs f) ∧ f.up ≤ S.fs.length ∧ at_ ≤ K.w.length
  | .row f at_ => (FrOk K f ∧ FrU K S.fs f) ∧ f.up ≤ S.fs.length ∧ at_ ≤ K.w.length ∧ ∃ x, K.re[f.node]? = some x ∧ x.op = 4
  | .rowL f u at_ es => (FrOk K f ∧ FrU K S.fs f) ∧ f.up ≤ S.fs.length ∧ at_ ≤ K.w.length ∧ (∃ x, K.re[f.node]? = some x ∧ x.op = 4) ∧ ∃ l k, f.left = l + 1 ∧ u = k + 1 ∧ S.fs[k]? = some { f with kid := K.bh f.kid, left := l, fr := 0 } ∧ ∀ e ∈ es, at_ ≤ e ∧ e ≤ f.to
  | .rnd f at_ => (FrOk K f ∧ FrU K S.fs f) ∧ f.up ≤ S.fs.length ∧ at_ ≤ K.w.length ∧ ∃ x, K.re[f.node]? = some x ∧ x.op = 6
  | .rndL f u at_ es => (FrOk K f ∧ FrU K S.fs f) ∧ f.up ≤ S.fs.length ∧ at_ ≤ K.w.length ∧ ∃ x k, K.re[f.node]? = some x ∧ x.op = 6 ∧ (x.mx < 0 ∨ (f.kid : Int) < x.mx) ∧ u = k + 1 ∧ S.fs[k]? = some { f with kid := satK x f.kid } ∧ ∀ e ∈ es, at_ ≤ e ∧ e ≤ f.to
theorem push_gd {K : SrE} {S S1 : SS} {f : Frm} {u : Nat} (h : S.push f = (u, S1)) (hS : FrsOk K S) (hf : FrOk K f) (hfu : FrU K S.fs f) (hu : f.up ≤ S.fs.length) :
    FrsOk K S1 ∧ (∃ a, S1.fs = S.fs ++ a) ∧ S1.F = S.F ∧ S1.fuel = S.fuel ∧ S1.ts = S.ts ∧ ∃ k, u = k + 1 ∧ S1.fs[k]? = some f := by
  unfold SS.push at h
  split at h
  · rename_i k hk
    cases h
    exact ⟨hS, ⟨[], by simp⟩, rfl, rfl, rfl, k, rfl, fnd_some hk⟩
  · rename_i hk
    cases h
    refine ⟨⟨fun g hg => ?_, hS.ch.snoc hu, hS.sp, hS.nd, fun g hg => ?_, ?_⟩, ⟨[f], rfl⟩, rfl, rfl, rfl, S.fs.length, rfl, by simp⟩
    · rcases List.mem_append.1 hg with hg | hg
      · exact hS.fr g hg
      · rw [List.mem_singleton.1 hg]; exact hf
    · rcases List.mem_append.1 hg with hg | hg
      · exact (hS.up g hg).ext
      · rw [List.mem_singleton.1 hg]; exact hfu.ext
    · exact List.nodup_append.2 ⟨hS.fn, by simp, fun a ha b hb => by
        obtain rfl := List.mem_singleton.1 hb
        intro e; subst e
        exact fnd_none hk ha⟩
section
variable {K : SrE} {S S1 S' : SS}
theorem rkx (hS : FrsOk K S) (hS1 : FrsOk K S1) (hx : ∃ a, S1.fs = S.fs ++ a) {u v : Nat} (hu : u ≤ S.fs.length) : K.rk S1.fs u v = K.rk S.fs u v := by
  obtain ⟨a, ha⟩ := hx
  have := hS1.ch
  rw [ha] at this ⊢
  exact SrE.rk_ext hS.ch this u hu v
theorem fRkx (hS : FrsOk K S) (hS1 : FrsOk K S1) (hx : ∃ a, S1.fs = S.fs ++ a) {f : Frm} {v : Nat} (hu : f.up ≤ S.fs.length) : K.fRk S1.fs f v = K.fRk S.fs f v := by
  unfold SrE.fRk
  rw [rkx hS hS1 hx hu, rkx hS hS1 hx hu]
theorem rk_frm (hS : FrsOk K S) {k : Nat} {f : Frm} (hf : S.fs[k]? = some f) {at_ : Nat} : K.rk S.fs (k + 1) at_ = K.fRk S.fs f at_ := by
  obtain ⟨x, ks, e, hp, _⟩ := hS.fr f (List.mem_of_getElem? hf)
  rw [SrE.rk_succ hS.ch hf hp.head.1, SrE.fRk, hp.head.1]
theorem fRk4 {f : Frm} {x : Nd} {fs : List Frm} {at_ : Nat} (hx : K.re[f.node]? = some x) (ho : x.op = 4) : K.fRk fs f at_ = potF K.w.length (foAt K.re f.kid f.left) + 1 + K.rk fs f.up f.to := by rw [SrE.fRk, hx]; simp only [ho, if_true]
theorem fRk6 {f : Frm} {x : Nd} {fs : List Frm} {at_ : Nat} (hx : K.re[f.node]? = some x) (ho : x.op = 6) : K.fRk fs f at_ = rlN x f at_ * (potF K.w.length (foAt K.re (f.node + 1) 1) + 2) + 1 + K.rk fs f.up f.to := by
  rw [SrE.fRk, hx]; simp only [ho]; rw [if_neg (by decide), if_pos trivial]
theorem fRk7 {f : Frm} {x : Nd} {fs : List Frm} {at_ : Nat} (hx : K.re[f.node]? = some x) (h4 : ¬ x.op = 4) (h6 : ¬ x.op = 6) : K.fRk fs f at_ = 1 + K.rk fs f.up at_ := by rw [SrE.fRk, hx]; simp only [h4, h6, if_false]
theorem fo1 {x : Nd} {ks r : F} {k e : Nat} (h : Part K.re (.nd x ks r) k e) : foAt K.re k 1 = .nd x ks .nil := foAt_eq h.one
theorem pot1 {n : Nat} {x : Nd} {ks : F} : 2 ≤ potF n (.nd x ks .nil) := by
  rw [potF]; split <;> omega
theorem pot_n6 {n : Nat} {x : Nd} {ks r : F} (h : ¬ x.op = 6) : potF n (.nd x ks r) = potF n ks + 2 + potF n r := by rw [potF, if_neg h]
theorem ends_length {p q : Nat} : (ends p q).length = q + 1 - p := by
  have : ∀ k, (down p k).length = k := fun k => by
    induction k with
    | zero => rfl
    | succ k ih => rw [down, List.length_cons, ih]
  rw [ends, this]
theorem Gd.point {f : Frm} {k at_ t bd : Nat} {b : Bool} (h : Gd K S S1 (K.fRk S.fs f at_) (K.cst f) b) (hS : FrsOk K S) (hf : S.fs[k]? = some f) (hn : (⟨k + 1, at_, t⟩ : Pt) ∉ S.F) (hb : K.fRk S.fs f at_ < bd) (hat : at_ ≤ K.w.length) (hd : ∃ cs : List Sp, (∀ s ∈ cs, SpOk K s) ∧ Dec S1.ts 0 (chunks (K.proj cs)) t) : Gd K S (S1.fail b ⟨k + 1, at_, t⟩) bd 0 b := by
  obtain ⟨a1, ⟨a, ha⟩, a8, T, N, a3, a4, a5, a6, a7⟩ := h
  have hk := (List.getElem?_eq_some_iff.1 hf).1
  have hf1 : S1.fs[k]? = some f := by rw [ha, List.getElem?_append_left hk]; exact hf
  have hr : K.rk S1.fs (k + 1) at_ = K.fRk S.fs f at_ := by
    rw [rkx hS a1 ⟨a, ha⟩ (by omega), rk_frm hS hf]
  have hc : K.cstP S1.fs ⟨k + 1, at_, t⟩ = K.cst f := by
    show (match S1.fs[k + 1 - 1]? with | none => 0 | some f => K.cst f) = _
    rw [Nat.add_sub_cancel, hf1]
  have hp0 : PtOk K S1 ⟨k + 1, at_, t⟩ := ⟨by show 1 ≤ k + 1; omega, by show k + 1 ≤ _; rw [ha, List.length_append]; omega, hat, hd⟩
  have hnew : (⟨k + 1, at_, t⟩ : Pt) ∉ T ++ N := fun hm => by
    have := (a5 _ hm).2
    rw [hr] at this
    omega
  have hnew2 : (⟨k + 1, at_, t⟩ : Pt) ∉ T ++ (N ++ S.F) := fun hm => by
    rw [← List.append_assoc] at hm
    rcases List.mem_append.1 hm with hm | hm
    · exact hnew hm
    · exact hn hm
  have h5 : ∀ p ∈ T ++ N, PtOk K S1 p ∧ K.rk S1.fs p.u p.at_ < bd := fun p hp => ⟨(a5 p hp).1, by have := (a5 p hp).2; omega⟩
  have h5' : PtOk K S1 ⟨k + 1, at_, t⟩ ∧ K.rk S1.fs (⟨k + 1, at_, t⟩ : Pt).u (⟨k + 1, at_, t⟩ : Pt).at_ < bd := ⟨hp0, by show K.rk S1.fs (k + 1) at_ < bd; rw [hr]; exact hb⟩
  cases b with
  | true =>
    refine ⟨a1, ⟨a, ha⟩, a8, ⟨k + 1, at_, t⟩ :: T, N, fun h => (by cases h), a4, fun p hp => ?_, fun hnd => List.nodup_cons.2 ⟨hnew2, a6 hnd⟩, ?_⟩
    · rcases List.mem_cons.1 hp with rfl | hp
      · exact h5'
      · exact h5 p hp
    · show S.fuel ≤ S1.fuel + 0 + ((⟨k + 1, at_, t⟩ :: (T ++ N)).map (K.cstP S1.fs)).sum
      rw [List.map_cons, List.sum_cons, hc]; omega
  | false =>
    obtain rfl := a3 rfl
    refine ⟨a1.cs rfl rfl a1.sp, ⟨a, ha⟩, a8, [], ⟨k + 1, at_, t⟩ :: N, fun _ => rfl, by show _ :: S1.F = _; rw [a4]; rfl, fun p hp => ?_, fun hnd => ?_, ?_⟩
    · rcases List.mem_cons.1 hp with rfl | hp
      · exact h5'
      · exact h5 p hp
    · exact List.nodup_cons.2 ⟨hnew2, a6 hnd⟩
    · show S.fuel ≤ S1.fuel + 0 + ((⟨k + 1, at_, t⟩ :: N).map (K.cstP S1.fs)).sum
      simp only [List.nil_append] at a7
      rw [List.map_cons, List.sum_cons, hc]; omega
end
end Go.HL.Kl.Mc
namespace Go.HL.Kl.Mc
open Go Go.HL Go.HL.Kl
def Rel (l : List Caps) (D : Prop) (b : Sp → List Sp) : Prop := (D ∧ ∃ c', l.head? = some c' ∧ ∀ z, b z = z :: c') ∨ (¬ D ∧ l = [])
def OkN (x : Nd) : Prop := (1 ≤ x.op ∧ x.op ≤ 7) ∧ (x.op = 7 → 1 ≤ x.n) ∧ (x.op = 6 → x.mx = -1 ∨ 0 ≤ x.mx)
end Go.HL.Kl.Mc
