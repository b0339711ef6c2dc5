/- Part of the proofs over this seat: see the text that holds the theorem. Conditions: each theorem bears its own. -/
import Derived.Test.YtloepfcndglmmaaDoorHTZ
import Derived.Test.YtloepfcndglmmaaDoorBS7Z
import Derived.Test.YtloepfcndglmmaaDoorHlB
import Derived.Test.YtloepfcndglmmaaDoorVZN1Z
import Derived.Test.YtloepfcndglmmaaDoorMOZ
import Derived.Test.YtloepfcndglmmaaDoorMK2Z
import Derived.Recover
import Derived.Scope
namespace Go.Proofs.YtloepfcndglmmaaDoor
open Go Go.HL Go.Proofs Go.HL.Kl Go.HL.Kl.Mc Go.HL.Kl.Mc.AskE
set_option maxHeartbeats 2000000 in
theorem emptiedB_fn (K : BkE) (s : BkS) (hrl : K.re.length ≤ 1000000) (hO : OwnS Esp 2 45 (.slice K.sa (K.N + 1) K.sc) s.S.cs s.Ss) (hcl : s.S.cs.length = K.N + 1) (hN : K.N ≤ 1000000) (hg7 : ∀ x ∈ K.re, x.op = 7 → 0 ≤ x.n ∧ x.n ≤ K.N) (a b : Nat) (hab : a ≤ b) (hb : b ≤ K.re.length) : HL.Fn Tryd.prog 87 [pt K.b, .int .i64 a, .int .i64 b] (fun W => K.Env W (keys (K.obj s :: s.Ss))) (K.obj s :: s.Ss) (fun v S' => ∃ la lc Sl Ss', v = .slice la (emW (K.sr.inn a b) s.S.cs).length lc ∧ S' = Sl ++ (K.obj s :: Ss') ∧ OwnS Esp 2 45 (.slice la (emW (K.sr.inn a b) s.S.cs).length lc) (emW (K.sr.inn a b) s.S.cs) Sl ∧ OwnS Esp 2 45 (.slice K.sa (K.N + 1) K.sc) (fgt (K.sr.inn a b) s.S.cs) Ss') := by
  refine fn_of Tryd.func87 rfl rfl rfl fun w0 hw => ?_
  have hsl := hw.d1.sl
  have hrc := hsl.cap
  have hsp := hO.sl
  rw [hcl] at hsp
  have hil : (K.sr.inn a b).length = b - a := K.sr.inn_len hb
  have hisl : IsSl (.slice (midA K.ra K.rc a 9) (K.sr.inn a b).length (K.rc - a)) (K.sr.inn a b).length := by rw [hil]; exact hsl.mid a (b - a) (by omega)
  have hrle := hsl.le
  refine cR fun _ hK1 => ?_; refine oA (oZ hK1 (cR fun _ hK2 => ?_)); refine oA (oZ hK2 (c_seq fun _ hK3 => ?_)); refine cR fun _ hK4 => ?_; refine oM ?_; refine oS sN ?_; refine oS sF ?_; refine oS sL (oM (oM ?_)); refine oS (step_cast (v' := .slice (midA K.ra K.rc a 9) (K.sr.inn a b).length (K.rc - a)) (s_slice_mid rfl rfl rfl (by omega)) (by rw [hil]; simp only [Int.toNat_natCast])) ?_; refine oS sC (oM (oZ hK4 (c_block ?_))); refine c_loop7 (fun (k : Nat) (la : Option Addr) (lc : Nat) (l : List Sp) (SL : Hp) (cs : List Sp) (SS : Hp) => k ≤ (K.sr.inn a b).length ∧ OwnS Esp 2 45 (.slice la l.length lc) l SL ∧ OwnS Esp 2 45 (.slice K.sa (K.N + 1) K.sc) cs SS ∧ cs.length = K.N + 1 ∧ l ++ emW ((K.sr.inn a b).drop k) cs = emW (K.sr.inn a b) s.S.cs ∧ fgt ((K.sr.inn a b).drop k) cs = fgt (K.sr.inn a b) s.S.cs ∧ l.length ≤ k) (fun (k : Nat) (la : Option Addr) (lc : Nat) (l : List Sp) (SL : Hp) (cs : List Sp) (SS : Hp) => [(7, .slice la l.length lc), (18, .int .i64 k)]) [(0, _), (6, _), (16, _), (17, _)] (fun (k : Nat) (la : Option Addr) (lc : Nat) (l : List Sp) (SL : Hp) (cs : List Sp) (SS : Hp) => SL ++ (K.obj s :: SS)) (fun (k : Nat) (la : Option Addr) (lc : Nat) (l : List Sp) (SL : Hp) (cs : List Sp) (SS : Hp) => (K.sr.inn a b).length - k) 0 none 0 [] [] s.S.cs s.Ss ⟨Nat.zero_le _, .nil, hO, hcl, rfl, rfl, Nat.le_refl _⟩ sbA sbA hzB ?_
  rintro k la lc l SL cs SS ⟨hkl, hL, hC, hcl2, hem, hfg, hlk⟩
  have hsp2 := hC.sl
  rw [hcl2] at hsp2
  refine cR fun _ hK5 => ?_
  by_cases hk : (k : Int) < (K.sr.inn a b).length
  ·obtain ⟨x, hx⟩ : ∃ x, (K.sr.inn a b)[k]? = some x := gE
   have hxm := K.sr.inn_mem (List.mem_of_getElem? hx)
   have hdk := drop_get hx
   refine oS lsT (oZ hK5 (c_seq fun _ hK6 => ?_)); refine cTZ hK6 (c_seq fun _ hK7 => ?_); refine c_block (cR fun _ hK8 => ?_); refine oS (s_idx rfl rfl hisl (by omega)) ?_; refine oS (s_ldB rfl (((RdK.old hw.d1 hw.a1).mid a b hab hb).lds k hx rfl) (by rfl)) ?_; refine o_alloc (l := En zN) (by rw [En_zero]; rfl) rfl fun b9 => ?_; refine o_stW rfl rfl upA lnA lnA onA ?_; refine oZ hK8 (cR fun _ hK9 => ?_); refine oS sF ?_; refine oS sL ?_
   by_cases h7 : x.op = 7
   ·obtain ⟨hn1, hn2⟩ := hg7 x hxm h7
    obtain ⟨y, hy⟩ : ∃ y, cs[x.n.toNat]? = some y := gE
    refine oS (eqT (h := h7)) ?_; refine oZ hK9 ?_; refine cT (c_seq fun _ hK10 => ?_); refine c_drawE ((b9, .cells (En x).toArray 80 (0, 0)) :: (K.obj s :: SS)) (fun i => false) ?_; refine eP 0 rfl sM ?_; refine eP 1 rfl sM ?_; refine eP 2 rfl sN ?_; refine eP 3 rfl sF ?_; refine eK 4 rfl sL ?_; refine eP 5 rfl sF ?_; refine eK 6 rfl sL ?_; refine eK 7 rfl (s_idx rfl rfl hsp2 (by omega)) ?_; refine eK 8 rfl (s_ldB rfl ((hC.rdk hiA).cels hy) lnA) ?_; refine eO 9 rfl ?_; refine o_bs (E := Esp) (xs := [y]) (vs := [_]) rfl rfl rfl rfl rfl (by decide) (by decide) fun b34 S34 hS34 => ?_; refine oX (eO 10 rfl ?_); refine o_app hL (hS34.rdk hiA) rfl rfl rfl rfl (by simp only [List.length_singleton]; omega) (by simp only [List.length_singleton]; omega) rfl pkA fun a35 c35 S35 hS35 => ?_; refine oX (eO 11 rfl (oA (oX (eZ hK10 ?_)))); refine c_drawE ((b9, .cells (En x).toArray 80 (0, 0)) :: (K.obj s :: SS)) (fun i => Nat.beq i 8) ?_
    refine eP 0 rfl sM ?_; refine eP 1 rfl sN ?_; refine eP 2 rfl sF ?_; refine eK 3 rfl sL ?_; refine eP 4 rfl sF ?_; refine eK 5 rfl sL ?_; refine eK 6 rfl (s_ldB (cs := Esp noS) rfl ((RdPK.old hw.g hw.ga).cels) rfl) ?_; refine eO 7 rfl ?_; refine oS (s_idx rfl rfl hsp2 (by omega)) ?_; refine oX (eO 8 rfl ?_); refine o_stSE x.n.toNat noS hC pkA rfl rfl (by omega) (by rfl) fun S' hS' => ?_; refine o_nil ?_; refine x_oneL rfl ?_; refine e_done (by kernel_rfl) ?_; refine x_block (xZ hK7 (c_region ?_)); refine oS sD (oM (o_nil ?_)); exact xI (k + 1, a35, c35, l ++ [y], S35, cs.set x.n.toNat noS, S') ⟨by dsimp only; omega, hS35, hS', by dsimp only; rw [List.length_set]; exact hcl2, by dsimp only; rw [← hem, hdk, emW_7 h7, List.getD_eq_getElem?_getD, hy, List.append_assoc]; rfl, by dsimp only; rw [← hfg, hdk, fgt_7 h7], by dsimp only; rw [List.length_append, List.length_singleton]; omega⟩
   ·refine oS (eqF (h := h7)) ?_; refine oZ hK9 ?_; refine cF (c_skip (x_block (xZ hK7 (c_region ?_)))); refine oS sD (oM (o_nil ?_)); exact xI (k + 1, la, lc, l, SL, cs, SS) ⟨by dsimp only; omega, hL, hC, hcl2, by dsimp only; rw [← hem, hdk, emW_n h7], by dsimp only; rw [← hfg, hdk, fgt_n h7], by dsimp only; omega⟩
  ·obtain rfl : k = (K.sr.inn a b).length := by omega
   refine oS lsF (oZ hK5 (c_seq fun _ hK11 => ?_)); refine cF ?_; refine c_exit ?_; refine x_then_exit (x_then_exit (x_block_exit (xZ hK3 (cR fun _ hK12 => ?_)))); refine oM (oA (oZ hK12 (c_ret ?_))); refine ?_; refine x_sub (Sub.refl _) (H' := SL ++ (K.obj s :: SS)) hzB ?_
   have hdn : (K.sr.inn a b).drop (K.sr.inn a b).length = [] := List.drop_length
   rw [hdn] at hem hfg
   have hem : l = emW (K.sr.inn a b) s.S.cs := by rw [← hem]; exact (List.append_nil _).symm
   have hfg : cs = fgt (K.sr.inn a b) s.S.cs := hfg
   subst hem; subst hfg
   exact xR rfl rfl (⟨la, lc, SL, SS, rfl, rfl, hL, hC⟩)
set_option maxHeartbeats 2000000 in
theorem restoreB_fn (K : BkE) (s : BkS) (hrl : K.re.length ≤ 1000000) (hO : OwnS Esp 2 45 (.slice K.sa (K.N + 1) K.sc) s.S.cs s.Ss) (hcl : s.S.cs.length = K.N + 1) (hN : K.N ≤ 1000000) (hg7 : ∀ x ∈ K.re, x.op = 7 → 0 ≤ x.n ∧ x.n ≤ K.N) (a b : Nat) (hab : a ≤ b) (hb : b ≤ K.re.length) (la : Option Addr) (lc : Nat) (l : List Sp) (SL : Hp) (hL : OwnS Esp 2 45 (.slice la l.length lc) l SL) (hl7 : l.length = nG7 (K.sr.inn a b)) : HL.Fn Tryd.prog 88 [pt K.b, .int .i64 a, .int .i64 b, .slice la l.length lc] (fun W => K.Env W (keys (SL ++ (K.obj s :: s.Ss)))) (SL ++ (K.obj s :: s.Ss)) (fun v S' => ∃ Ss', S' = (K.obj s :: Ss') ∧ OwnS Esp 2 45 (.slice K.sa (K.N + 1) K.sc) (rst (K.sr.inn a b) l s.S.cs) Ss') := by
  refine fn_of Tryd.func88 rfl rfl rfl fun w0 hw => ?_
  have hsl := hw.d1.sl
  have hrc := hsl.cap
  have hsp := hO.sl
  rw [hcl] at hsp
  have hil : (K.sr.inn a b).length = b - a := K.sr.inn_len hb
  have hisl : IsSl (.slice (midA K.ra K.rc a 9) (K.sr.inn a b).length (K.rc - a)) (K.sr.inn a b).length := by rw [hil]; exact hsl.mid a (b - a) (by omega)
  have hrle := hsl.le
  have hls := hL.sl
  refine cR fun _ hK1 => ?_; refine oM ?_; refine oS sN ?_; refine oS sF ?_; refine oS sL (oM (oM ?_)); refine oS (step_cast (v' := .slice (midA K.ra K.rc a 9) (K.sr.inn a b).length (K.rc - a)) (s_slice_mid rfl rfl rfl (by omega)) (by rw [hil]; simp only [Int.toNat_natCast])) ?_; refine oS sC (oM (oZ hK1 (c_block ?_))); refine c_loop6 (fun (k : Nat) (wa : Option Addr) (wc : Nat) (m : List Sp) (cs : List Sp) (SS : Hp) => k ≤ (K.sr.inn a b).length ∧ RdS Esp (.slice wa m.length wc) m SL ∧ IsSl (.slice wa m.length wc) m.length ∧ m.length = nG7 ((K.sr.inn a b).drop k) ∧ OwnS Esp 2 45 (.slice K.sa (K.N + 1) K.sc) cs SS ∧ cs.length = K.N + 1 ∧ rst ((K.sr.inn a b).drop k) m cs = rst (K.sr.inn a b) l s.S.cs) (fun (k : Nat) (wa : Option Addr) (wc : Nat) (m : List Sp) (cs : List Sp) (SS : Hp) => [(3, .slice wa m.length wc), (18, .int .i64 k)]) [(0, _), (16, _), (17, _)] (fun (k : Nat) (wa : Option Addr) (wc : Nat) (m : List Sp) (cs : List Sp) (SS : Hp) => SL ++ (K.obj s :: SS)) (fun (k : Nat) (wa : Option Addr) (wc : Nat) (m : List Sp) (cs : List Sp) (SS : Hp) => (K.sr.inn a b).length - k) 0 la lc l s.S.cs s.Ss ⟨Nat.zero_le _, hL.rds, hls, hl7, hO, hcl, rfl⟩ sbA sbA hzB ?_
  rintro k wa wc m cs SS ⟨hkl, hM, hms, hmg, hC, hcl2, hrs⟩
  have hsp2 := hC.sl
  rw [hcl2] at hsp2
  refine cR fun _ hK2 => ?_
  by_cases hk : (k : Int) < (K.sr.inn a b).length
  ·obtain ⟨x, hx⟩ : ∃ x, (K.sr.inn a b)[k]? = some x := gE
   have hxm := K.sr.inn_mem (List.mem_of_getElem? hx)
   have hdk := drop_get hx
   refine oS lsT (oZ hK2 (c_seq fun _ hK3 => ?_)); refine cTZ hK3 (c_seq fun _ hK4 => ?_); refine c_block (cR fun _ hK5 => ?_); refine oS (s_idx rfl rfl hisl (by omega)) ?_; refine oS (s_ldB rfl (((RdK.old hw.d1 hw.a1).mid a b hab hb).lds k hx rfl) (by rfl)) ?_; refine o_alloc (l := En zN) (by rw [En_zero]; rfl) rfl fun b9 => ?_; refine o_stW rfl rfl upA lnA lnA onA ?_; refine oZ hK5 (cR fun _ hK6 => ?_); refine oS sF ?_; refine oS sL ?_
   by_cases h7 : x.op = 7
   ·obtain ⟨hn1, hn2⟩ := hg7 x hxm h7
    obtain ⟨y, m, rfl⟩ : ∃ y m2, m = y :: m2 := by cases m with | nil => rw [hdk, nG7_7 h7] at hmg; simp at hmg | cons y m2 => exact ⟨y, m2, rfl⟩
    refine oS (eqT (h := h7)) ?_; refine oZ hK6 ?_; refine cT (c_seq fun _ hK7 => ?_); refine c_drawE ((b9, .cells (En x).toArray 80 (0, 0)) :: (SL ++ (K.obj s :: SS))) (fun i => Nat.beq i 10) ?_; refine eP 0 rfl sM ?_; refine eP 1 rfl sN ?_; refine eP 2 rfl sF ?_; refine eK 3 rfl sL ?_; refine eP 4 rfl sF ?_; refine eK 5 rfl sL ?_; refine eP 6 rfl sM ?_; refine eK 7 rfl (s_idx rfl rfl hms (by rw [List.length_cons]; omega)) ?_; refine eK 8 rfl (s_ldB rfl ((hM.rdk hiA).cels (i := 0) rfl) lnA) ?_; refine eO 9 rfl ?_; refine oS (s_idx rfl rfl hsp2 (by omega)) ?_; refine oX (eO 10 rfl ?_); refine o_stSE x.n.toNat y hC pkA rfl rfl (by omega) (by rfl) fun S' hS' => ?_; refine o_nil ?_; refine x_oneL rfl ?_; refine eZ hK7 (c_region (oM ?_)); refine oS (step_cast (v' := .slice (midA wa wc 1 2) m.length (wc - 1)) (s_slice_lo rfl rfl (by have := hms.cap; rw [List.length_cons] at this ⊢; omega)) (by rw [List.length_cons]; rfl)) ?_; refine oA (o_nil (x_block (xZ hK4 (c_region ?_)))); refine oS sD ?_
    refine oM (o_nil ?_); exact xI (k + 1, midA wa wc 1 2, wc - 1, m, cs.set x.n.toNat y, S') ⟨by dsimp only; omega, hM.tail, (by have := hms.mid (k := 2) 1 m.length (by rw [List.length_cons]; omega); exact this), by dsimp only; rw [hdk, nG7_7 h7, List.length_cons] at hmg; omega, hS', by dsimp only; rw [List.length_set]; exact hcl2, by dsimp only; rw [← hrs, hdk, rst_7 h7]⟩
   ·refine oS (eqF (h := h7)) ?_; refine oZ hK6 ?_; refine cF (c_skip (x_block (xZ hK4 (c_region ?_)))); refine oS sD (oM (o_nil ?_)); exact xI (k + 1, wa, wc, m, cs, SS) ⟨by dsimp only; omega, hM, hms, by dsimp only; rw [hdk, nG7_n h7] at hmg; exact hmg, hC, hcl2, by dsimp only; rw [← hrs, hdk, rst_n h7]⟩
  ·obtain rfl : k = (K.sr.inn a b).length := by omega
   refine oS lsF (oZ hK2 (c_seq fun _ hK8 => ?_)); refine cF ?_; refine c_exit ?_; refine x_then_exit (x_then_exit (x_block_exit ?_)); refine x_sub (Sub.refl _) (H' := (K.obj s :: SS)) hzB ?_
   have hdn : (K.sr.inn a b).drop (K.sr.inn a b).length = [] := List.drop_length
   rw [hdn] at hrs
   have hrs : cs = rst (K.sr.inn a b) l s.S.cs := hrs
   subst hrs; exact x_end rfl (.nil) (⟨SS, rfl, hC⟩)
end Go.Proofs.YtloepfcndglmmaaDoor
namespace Go.HL.Kl.Mc
open Go Go.HL Go.HL.Kl AskE
def SpOk (K : SrE) (s : Sp) : Prop := s = noS ∨ (0 ≤ s.fr ∧ s.fr ≤ s.to ∧ s.to ≤ K.w.length)
def FrOk (K : SrE) (f : Frm) : Prop := ∃ x ks e, Part K.re (.nd x ks .nil) f.node e ∧ f.to ≤ K.w.length ∧ ((x.op = 4 ∧ ∃ g e2, Part K.re g f.kid e2 ∧ g.num = f.left) ∨ (x.op = 6 ∧ f.kid ≤ 255) ∨ (x.op = 7 ∧ f.fr ≤ f.to))
structure Fin (K : SrE) (S : SS) : Prop where
  fr : ∀ f ∈ S.fs, FrOk K f
  ch : Chn S.fs
  sp : ∀ s ∈ S.cs, SpOk K s
structure Gr (S S' : SS) : Prop where
  fs : S.fs.length ≤ S'.fs.length
  ts : S.ts.length ≤ S'.ts.length
  fuel : S'.fuel ≤ S.fuel
  cs : S'.cs.length = S.cs.length
theorem Gr.refl {S : SS} : Gr S S := ⟨Nat.le_refl _, Nat.le_refl _, Nat.le_refl _, rfl⟩
theorem Gr.trans {S S1 S2 : SS} (h : Gr S S1) (h' : Gr S1 S2) : Gr S S2 := ⟨Nat.le_trans h.fs h'.fs, Nat.le_trans h.ts h'.ts, Nat.le_trans h'.fuel h.fuel, h'.cs.trans h.cs⟩
theorem push_gr {S S1 : SS} {f : Frm} {u : Nat} (h : S.push f = (u, S1)) : Gr S S1 := by
  cases hf : fnd f S.fs with
  | some k => rw [push_some hf] at h; cases h; exact .refl
  | none => rw [push_none hf] at h; cases h; exact ⟨by simp, Nat.le_refl _, Nat.le_refl _, rfl⟩
theorem code_gr {K : SrE} {S : SS} : Gr S (K.code S).2 := by
  refine ⟨Nat.le_refl _, ?_, Nat.le_refl _, rfl⟩
  have : ∀ (hs : List (List Sp)) (ts : List Tk) (n : Nat), ts.length ≤ (stG ts n hs).2.length := by
    intro hs
    induction hs with
    | nil => intro ts n; exact Nat.le_refl _
    | cons h r ih =>
      intro ts n
      unfold stG
      split
      · exact ih _ _
      · have := ih (ts ++ [⟨n, h⟩]) (ts.length + 1)
        rw [List.length_append] at this
        exact Nat.le_trans (Nat.le_add_right _ _) this
  exact this _ _ _
theorem rst_len : ∀ (l : List Nd) (was cs : List Sp), (rst l was cs).length = cs.length
  | [], _, _ => rfl
  | x :: l, was, cs => by
    unfold rst
    split
    · rw [rst_len l, List.length_set]
    · exact rst_len l _ _
theorem fail_gr {S : SS} {b : Bool} {p : Pt} : Gr S (S.fail b p) := by
  cases b
  · exact ⟨Nat.le_refl _, Nat.le_refl _, Nat.le_refl _, rfl⟩
  · exact .refl
theorem tick_gr {S : SS} : Gr S S.tick := ⟨Nat.le_refl _, Nat.le_refl _, Nat.sub_le _ _, rfl⟩
theorem cs_gr {S : SS} {c : List Sp} (h : c.length = S.cs.length) : Gr S { S with cs := c } := ⟨Nat.le_refl _, Nat.le_refl _, Nat.le_refl _, h⟩
theorem Ev.mono {K : SrE} {S S' : SS} {q : SQ} {b : Bool} (h : Ev K S q b S') : Gr S S' := by
  induction h with
  | takeNo hx hf ho hg => exact tick_gr
  | takeYes hx hf ho hg h ih => exact tick_gr.trans ih
  | takeAlt hx hf ho h ih => exact tick_gr.trans ih
  | takeCat hx hf ho hp h ih => exact tick_gr.trans ((push_gr hp).trans ih)
  | takeRep hx hf ho hp h ih => exact tick_gr.trans ((push_gr hp).trans ih)
  | takeGrpY hx hf ho hp h ih => exact tick_gr.trans ((cs_gr (fgt_len _ _)).trans ((push_gr hp).trans ih))
  | takeGrpN hx hf ho hp h ih => exact tick_gr.trans ((cs_gr (fgt_len _ _)).trans ((push_gr hp).trans (ih.trans (cs_gr (rst_len _ _ _)))))
  | altNil => exact .refl
  | altYes h ih => exact ih
  | altNo h h' ih ih' => exact ih.trans ih'
  | nextZero => exact .refl
  | nextMemo h => exact code_gr
  | @nextGo S S2 k at_ f b hn hf h ih =>
    have g := ih.trans (fail_gr (b := b) (p := ⟨k + 1, at_, (K.code S).1⟩))
    exact (code_gr (K := K) (S := S)).trans ⟨g.fs, g.ts, g.fuel, g.cs⟩
  | bodyCat hx ho h ih => exact ih
  | bodyRep hx ho h ih => exact ih
  | bodyGrpY hx h4 h6 h ih => exact (cs_gr (List.length_set ..)).trans ih
  | bodyGrpN hx h4 h6 h ih => exact (cs_gr (List.length_set ..)).trans (ih.trans (cs_gr (List.length_set ..)))
  | rowZN hl he => exact .refl
  | rowZ hl he h ih => exact ih
  | rowS hl hp h ih => exact (push_gr hp).trans ih
  | rowLNil => exact .refl
  | rowLYes h ih => exact ih
  | rowLLast hl h ih => exact ih
  | rowLNo hl h h' ih ih' => exact ih.trans ih'
  | rndYes hx hm hp h ih => exact (push_gr hp).trans ih
  | rndEnd hx hm hp h he h' ih ih' => exact (push_gr hp).trans (ih.trans ih')
  | rndNo hx hm hp h he ih => exact (push_gr hp).trans ih
  | rnd0End hx hm he h' ih' => exact ih'
  | rnd0No hx hm he => exact .refl
  | rndLNil => exact .refl
  | rndLBrk hx hb => exact .refl
  | rndLYes hx hb h ih => exact (cs_gr (fgt_len _ _)).trans ih
  | rndLNo hx hb h h' ih ih' => exact (cs_gr (fgt_len _ _)).trans (ih.trans ((cs_gr (rst_len _ _ _)).trans ih'))
/-! the runs, turned round -/
section
variable {K : SrE} {S S' : SS} {b : Bool}
theorem Ev.iNext0 {at_ : Nat} (h : Ev K S (.next 0 at_) b S') : b = true ∧ S' = S := by cases h; exact ⟨rfl, rfl⟩
theorem Ev.iNext {k at_ : Nat} (h : Ev K S (.next (k + 1) at_) b S') : ((⟨k + 1, at_, (K.code S).1⟩ : Pt) ∈ S.F ∧ b = false ∧ S' = (K.code S).2) ∨ ((⟨k + 1, at_, (K.code S).1⟩ : Pt) ∉ S.F ∧ ∃ f S2, S.fs[k]? = some f ∧ Ev K { (K.code S).2 with wk := S.wk + 1 } (.body f at_) b S2 ∧ S' = S2.fail b ⟨k + 1, at_, (K.code S).1⟩) := by
  cases h with
  | nextMemo h => exact .inl ⟨h, rfl, rfl⟩
  | nextGo hn hf h => exact .inr ⟨hn, _, _, hf, h, rfl⟩
theorem Ev.iBody4 {f : Frm} {at_ : Nat} {x : Nd} (hx : K.re[f.node]? = some x) (ho : x.op = 4) (h : Ev K S (.body f at_) b S') : Ev K S (.row f at_) b S' := by
  cases h with
  | bodyCat _ _ h => exact h
  | bodyRep hx' ho' _ => rw [hx] at hx'; cases hx'; omega
  | bodyGrpY hx' h4 _ _ => rw [hx] at hx'; cases hx'; exact absurd ho h4
  | bodyGrpN hx' h4 _ _ => rw [hx] at hx'; cases hx'; exact absurd ho h4
theorem Ev.iBody6 {f : Frm} {at_ : Nat} {x : Nd} (hx : K.re[f.node]? = some x) (ho : x.op = 6) (h : Ev K S (.body f at_) b S') : Ev K S (.rnd f at_) b S' := by
  cases h with
  | bodyRep _ _ h => exact h
  | bodyCat hx' ho' _ => rw [hx] at hx'; cases hx'; omega
  | bodyGrpY hx' _ h6 _ => rw [hx] at hx'; cases hx'; exact absurd ho h6
  | bodyGrpN hx' _ h6 _ => rw [hx] at hx'; cases hx'; exact absurd ho h6
theorem Ev.iBody7 {f : Frm} {at_ : Nat} {x : Nd} (hx : K.re[f.node]? = some x) (ho : x.op = 7) (h : Ev K S (.body f at_) b S') : ∃ S2, Ev K { S with cs := S.cs.set x.n.toNat ⟨f.fr, f.to⟩ } (.next f.up at_) b S2 ∧ S' = if b = true then S2 else { S2 with cs := S2.cs.set x.n.toNat (S.cs.getD x.n.toNat noS) } := by
  cases h with
  | bodyCat hx' ho' _ => rw [hx] at hx'; cases hx'; omega
  | bodyRep hx' ho' _ => rw [hx] at hx'; cases hx'; omega
  | bodyGrpY hx' _ _ h => rw [hx] at hx'; cases hx'; exact ⟨_, h, rfl⟩
  | bodyGrpN hx' _ _ h => rw [hx] at hx'; cases hx'; exact ⟨_, h, rfl⟩
theorem Ev.iRow0 {f : Frm} {at_ : Nat} (hl : f.left = 0) (h : Ev K S (.row f at_) b S') : (at_ ≠ f.to ∧ b = false ∧ S' = S) ∨ (at_ = f.to ∧ Ev K S (.next f.up at_) b S') := by
  cases h with
  | rowZN _ he => exact .inl ⟨he, rfl, rfl⟩
  | rowZ _ he h => exact .inr ⟨he, h⟩
  | rowS hl' _ _ => omega
theorem Ev.iRowS {f : Frm} {at_ : Nat} (hl : ¬ f.left = 0) (h : Ev K S (.row f at_) b S') : ∃ u S1, S.push { f with kid := K.bh f.kid, left := f.left - 1, fr := 0 } = (u, S1) ∧ Ev K S1 (.rowL f u at_ (ends at_ f.to)) b S' := by
  cases h with
  | rowZN hl' _ => exact absurd hl' hl
  | rowZ hl' _ _ => exact absurd hl' hl
  | @rowS _ _ _ _ _ u l _ hl' hp h =>
    have e : f.left - 1 = l := by omega
    rw [e]; exact ⟨_, _, hp, h⟩
theorem Ev.iRowL0 {f : Frm} {u at_ : Nat} (h : Ev K S (.rowL f u at_ []) b S') : b = false ∧ S' = S := by cases h; exact ⟨rfl, rfl⟩
theorem Ev.iRowL {f : Frm} {u at_ e : Nat} {es : List Nat} (h : Ev K S (.rowL f u at_ (e :: es)) b S') : ∃ b1 S1, Ev K S (.take f.kid at_ e u) b1 S1 ∧ ((b1 = true ∧ b = true ∧ S' = S1) ∨ (b1 = false ∧ f.left = 1 ∧ b = false ∧ S' = S1) ∨ (b1 = false ∧ f.left ≠ 1 ∧ Ev K S1 (.rowL f u at_ es) b S')) := by
  cases h with
  | rowLYes h => exact ⟨_, _, h, .inl ⟨rfl, rfl, rfl⟩⟩
  | rowLLast hl h => exact ⟨_, _, h, .inr (.inl ⟨rfl, hl, rfl, rfl⟩)⟩
  | rowLNo hl h h' => exact ⟨_, _, h, .inr (.inr ⟨rfl, hl, h'⟩)⟩
theorem Ev.iRnd {f : Frm} {at_ : Nat} {x : Nd} (hx : K.re[f.node]? = some x) (hm : x.mx < 0 ∨ (f.kid : Int) < x.mx) (h : Ev K S (.rnd f at_) b S') :
    ∃ u S1 b1 S2, S.push { f with kid := satK x f.kid } = (u, S1) ∧ Ev K S1 (.rndL f u at_ (ends at_ f.to)) b1 S2 ∧ ((b1 = true ∧ b = true ∧ S' = S2) ∨ (b1 = false ∧ (at_ = f.to ∧ x.mn ≤ (f.kid : Int)) ∧ Ev K S2 (.next f.up at_) b S') ∨ (b1 = false ∧ ¬ (at_ = f.to ∧ x.mn ≤ (f.kid : Int)) ∧ b = false ∧ S' = S2)) := by
  cases h with
  | rndYes hx' hm' hp h => rw [hx] at hx'; cases hx'; exact ⟨_, _, _, _, hp, h, .inl ⟨rfl, rfl, rfl⟩⟩
  | rndEnd hx' hm' hp h he h' => rw [hx] at hx'; cases hx'; exact ⟨_, _, _, _, hp, h, .inr (.inl ⟨rfl, he, h'⟩)⟩
  | rndNo hx' hm' hp h he => rw [hx] at hx'; cases hx'; exact ⟨_, _, _, _, hp, h, .inr (.inr ⟨rfl, he, rfl, rfl⟩)⟩
  | rnd0End hx' hm' => rw [hx] at hx'; cases hx'; exact absurd hm hm'
  | rnd0No hx' hm' => rw [hx] at hx'; cases hx'; exact absurd hm hm'
theorem Ev.iRnd0 {f : Frm} {at_ : Nat} {x : Nd} (hx : K.re[f.node]? = some x) (hm : ¬ (x.mx < 0 ∨ (f.kid : Int) < x.mx)) (h : Ev K S (.rnd f at_) b S') :
    ((at_ = f.to ∧ x.mn ≤ (f.kid : Int)) ∧ Ev K S (.next f.up at_) b S') ∨ (¬ (at_ = f.to ∧ x.mn ≤ (f.kid : Int)) ∧ b = false ∧ S' = S) := by
  cases h with
  | rndYes hx' hm' => rw [hx] at hx'; cases hx'; exact absurd hm' hm
  | rndEnd hx' hm' => rw [hx] at hx'; cases hx'; exact absurd hm' hm
  | rndNo hx' hm' => rw [hx] at hx'; cases hx'; exact absurd hm' hm
  | rnd0End hx' _ he h => rw [hx] at hx'; cases hx'; exact .inl ⟨he, h⟩
  | rnd0No hx' _ he => rw [hx] at hx'; cases hx'; exact .inr ⟨he, rfl, rfl⟩
theorem Ev.iRndL0 {f : Frm} {u at_ : Nat} (h : Ev K S (.rndL f u at_ []) b S') : b = false ∧ S' = S := by cases h; exact ⟨rfl, rfl⟩
theorem Ev.iRndL {f : Frm} {u at_ e : Nat} {es : List Nat} {x : Nd} (hx : K.re[f.node]? = some x) (h : Ev K S (.rndL f u at_ (e :: es)) b S') : (brk x f at_ e ∧ b = false ∧ S' = S) ∨ (¬ brk x f at_ e ∧ ∃ b1 S1, Ev K { S with cs := fgt (K.inn (f.node + 1) (K.bh f.node)) S.cs } (.take (f.node + 1) at_ e u) b1 S1 ∧
    ((b1 = true ∧ b = true ∧ S' = S1) ∨ (b1 = false ∧ Ev K { S1 with cs := rst (K.inn (f.node + 1) (K.bh f.node)) (emW (K.inn (f.node + 1) (K.bh f.node)) S.cs) S1.cs } (.rndL f u at_ es) b S'))) := by
  cases h with
  | rndLBrk hx' hb => rw [hx] at hx'; cases hx'; exact .inl ⟨hb, rfl, rfl⟩
  | rndLYes hx' hb h => rw [hx] at hx'; cases hx'; exact .inr ⟨hb, _, _, h, .inl ⟨rfl, rfl, rfl⟩⟩
  | rndLNo hx' hb h h' => rw [hx] at hx'; cases hx'; exact .inr ⟨hb, _, _, h, .inr ⟨rfl, h'⟩⟩
theorem Ev.iFuel {at_ i j up : Nat} (h : Ev K S (.take at_ i j up) b S') : 0 < S.fuel := by cases h <;> assumption
theorem Ev.iLeaf {at_ i j up : Nat} {x : Nd} (hx : K.re[at_]? = some x) (ho : x.op = 1 ∨ x.op = 2 ∨ x.op = 3 ∨ x.op = 8) (h : Ev K S (.take at_ i j up) b S') : (¬ K.good x S.cs i j ∧ b = false ∧ S' = S.tick) ∨ (K.good x S.cs i j ∧ Ev K S.tick (.next up j) b S') := by
  cases h with
  | takeNo hx' _ _ hg => rw [hx] at hx'; cases hx'; exact .inl ⟨hg, rfl, rfl⟩
  | takeYes hx' _ _ hg h => rw [hx] at hx'; cases hx'; exact .inr ⟨hg, h⟩
  | takeAlt hx' _ ho' => rw [hx] at hx'; cases hx'; omega
  | takeCat hx' _ ho' => rw [hx] at hx'; cases hx'; omega
  | takeRep hx' _ ho' => rw [hx] at hx'; cases hx'; omega
  | takeGrpY hx' _ ho' => rw [hx] at hx'; cases hx'; omega
  | takeGrpN hx' _ ho' => rw [hx] at hx'; cases hx'; omega
theorem Ev.iAltT {at_ i j up : Nat} {x : Nd} (hx : K.re[at_]? = some x) (ho : x.op = 5) (h : Ev K S (.take at_ i j up) b S') : Ev K S.tick (.alt (at_ + 1) x.kids.toNat i j up) b S' := by
  cases h with
  | takeNo hx' _ ho' => rw [hx] at hx'; cases hx'; omega
  | takeYes hx' _ ho' => rw [hx] at hx'; cases hx'; omega
  | takeAlt hx' _ ho' h => rw [hx] at hx'; cases hx'; exact h
  | takeCat hx' _ ho' => rw [hx] at hx'; cases hx'; omega
  | takeRep hx' _ ho' => rw [hx] at hx'; cases hx'; omega
  | takeGrpY hx' _ ho' => rw [hx] at hx'; cases hx'; omega
  | takeGrpN hx' _ ho' => rw [hx] at hx'; cases hx'; omega
theorem Ev.iCat {at_ i j up : Nat} {x : Nd} (hx : K.re[at_]? = some x) (ho : x.op = 4) (h : Ev K S (.take at_ i j up) b S') : ∃ u S2, S.tick.push ⟨up, at_, at_ + 1, x.kids.toNat, i, j⟩ = (u, S2) ∧ Ev K S2 (.next u i) b S' := by
  cases h with
  | takeNo hx' _ ho' => rw [hx] at hx'; cases hx'; omega
  | takeYes hx' _ ho' => rw [hx] at hx'; cases hx'; omega
  | takeAlt hx' _ ho' => rw [hx] at hx'; cases hx'; omega
  | takeCat hx' _ ho' hp h => rw [hx] at hx'; cases hx'; exact ⟨_, _, hp, h⟩
  | takeRep hx' _ ho' => rw [hx] at hx'; cases hx'; omega
  | takeGrpY hx' _ ho' => rw [hx] at hx'; cases hx'; omega
  | takeGrpN hx' _ ho' => rw [hx] at hx'; cases hx'; omega
theorem Ev.iRep {at_ i j up : Nat} {x : Nd} (hx : K.re[at_]? = some x) (ho : x.op = 6) (h : Ev K S (.take at_ i j up) b S') : ∃ u S2, S.tick.push ⟨up, at_, 0, 0, 0, j⟩ = (u, S2) ∧ Ev K S2 (.next u i) b S' := by
  cases h with
  | takeNo hx' _ ho' => rw [hx] at hx'; cases hx'; omega
  | takeYes hx' _ ho' => rw [hx] at hx'; cases hx'; omega
  | takeAlt hx' _ ho' => rw [hx] at hx'; cases hx'; omega
  | takeCat hx' _ ho' => rw [hx] at hx'; cases hx'; omega
  | takeRep hx' _ ho' hp h => rw [hx] at hx'; cases hx'; exact ⟨_, _, hp, h⟩
  | takeGrpY hx' _ ho' => rw [hx] at hx'; cases hx'; omega
  | takeGrpN hx' _ ho' => rw [hx] at hx'; cases hx'; omega
theorem Ev.iGrp {at_ i j up : Nat} {x : Nd} (hx : K.re[at_]? = some x) (ho : x.op = 7) (h : Ev K S (.take at_ i j up) b S') : ∃ u S2 S3, ({ S.tick with cs := fgt (K.inn (at_ + 1) (K.bh at_)) S.cs } : SS).push ⟨up, at_, 0, 0, i, j⟩ = (u, S2) ∧ Ev K S2 (.take (at_ + 1) i j u) b S3 ∧
    S' = if b = true then S3 else { S3 with cs := rst (K.inn (at_ + 1) (K.bh at_)) (emW (K.inn (at_ + 1) (K.bh at_)) S.cs) S3.cs } := by
  cases h with
  | takeNo hx' _ ho' => rw [hx] at hx'; cases hx'; omega
  | takeYes hx' _ ho' => rw [hx] at hx'; cases hx'; omega
  | takeAlt hx' _ ho' => rw [hx] at hx'; cases hx'; omega
  | takeCat hx' _ ho' => rw [hx] at hx'; cases hx'; omega
  | takeRep hx' _ ho' => rw [hx] at hx'; cases hx'; omega
  | takeGrpY hx' _ ho' hp h => rw [hx] at hx'; cases hx'; exact ⟨_, _, _, hp, h, rfl⟩
  | takeGrpN hx' _ ho' hp h => rw [hx] at hx'; cases hx'; exact ⟨_, _, _, hp, h, rfl⟩
theorem Ev.iAlt0 {kid i j up : Nat} (h : Ev K S (.alt kid 0 i j up) b S') : b = false ∧ S' = S := by cases h; exact ⟨rfl, rfl⟩
theorem Ev.iAlt {kid l i j up : Nat} (h : Ev K S (.alt kid (l + 1) i j up) b S') : ∃ b1 S1, Ev K S (.take kid i j up) b1 S1 ∧ ((b1 = true ∧ b = true ∧ S' = S1) ∨ (b1 = false ∧ Ev K S1 (.alt (K.bh kid) l i j up) b S')) := by
  cases h with
  | altYes h => exact ⟨_, _, h, .inl ⟨rfl, rfl, rfl⟩⟩
  | altNo h h' => exact ⟨_, _, h, .inr ⟨rfl, h'⟩⟩
end
/-! what is well keeps well -/
theorem Fin.push {K : SrE} {S S1 : SS} {f : Frm} {u : Nat} (h : Fin K S) (hf : FrOk K f) (hu : f.up ≤ S.fs.length) (hp : S.push f = (u, S1)) : Fin K S1 ∧ 1 ≤ u ∧ u ≤ S1.fs.length := by
  cases hq : fnd f S.fs with
  | some k =>
    rw [push_some hq] at hp
    cases hp
    exact ⟨h, by omega, (List.getElem?_eq_some_iff.1 (fnd_some hq)).1⟩
  | none =>
    rw [push_none hq] at hp
    cases hp
    exact ⟨⟨fun g hg => (List.mem_append.1 hg).elim (h.fr g) fun e => by rw [List.mem_singleton.1 e]; exact hf, h.ch.snoc hu, h.sp⟩, by omega, by simp⟩
theorem emW_ok {P : Sp → Prop} (h0 : P noS) : ∀ (l : List Nd) (cs : List Sp), (∀ s ∈ cs, P s) → ∀ s ∈ emW l cs, P s
  | [], _, _, _, h => by cases h
  | x :: l, cs, hc, s, h => by
    by_cases h7 : x.op = 7
    · rw [emW_7 h7] at h
      rcases List.mem_cons.1 h with rfl | h
      · rw [List.getD_eq_getElem?_getD]
        cases e : cs[x.n.toNat]? with
        | none => exact h0
        | some y => exact hc y (List.mem_of_getElem? e)
      · exact emW_ok h0 l _ (fun y hy => (List.mem_or_eq_of_mem_set hy).elim (hc y) fun e => by rw [e]; exact h0) s h
    · rw [emW_n h7] at h; exact emW_ok h0 l cs hc s h
theorem fgt_ok {P : Sp → Prop} (h0 : P noS) : ∀ (l : List Nd) (cs : List Sp), (∀ s ∈ cs, P s) → ∀ s ∈ fgt l cs, P s
  | [], _, hc, s, h => hc s h
  | x :: l, cs, hc, s, h => by
    by_cases h7 : x.op = 7
    · rw [fgt_7 h7] at h
      exact fgt_ok h0 l _ (fun y hy => (List.mem_or_eq_of_mem_set hy).elim (hc y) fun e => by rw [e]; exact h0) s h
    · rw [fgt_n h7] at h; exact fgt_ok h0 l cs hc s h
theorem rst_ok {P : Sp → Prop} (h0 : P noS) : ∀ (l : List Nd) (was cs : List Sp), (∀ s ∈ was, P s) → (∀ s ∈ cs, P s) → ∀ s ∈ rst l was cs, P s
  | [], _, _, _, hc, s, h => hc s h
  | x :: l, was, cs, hw, hc, s, h => by
    unfold rst at h
    split at h
    · refine rst_ok h0 l _ _ (fun y hy => hw y (List.mem_of_mem_tail hy)) (fun y hy => (List.mem_or_eq_of_mem_set hy).elim (hc y) fun e => ?_) s h
      rw [e]
      cases was with
      | nil => exact h0
      | cons a l => exact hw a List.mem_cons_self
    · exact rst_ok h0 l _ _ hw hc s h
theorem Fin.fgt {K : SrE} {S : SS} (h : Fin K S) (l : List Nd) : Fin K { S with cs := Mc.fgt l S.cs } := ⟨h.fr, h.ch, fgt_ok (.inl rfl) l _ h.sp⟩
theorem Fin.rst {K : SrE} {S : SS} (h : Fin K S) (l : List Nd) {was : List Sp} (hw : ∀ s ∈ was, SpOk K s) : Fin K { S with cs := Mc.rst l was S.cs } := ⟨h.fr, h.ch, rst_ok (.inl rfl) l _ _ hw h.sp⟩
theorem Fin.set {K : SrE} {S : SS} (h : Fin K S) (n : Nat) {x : Sp} (hx : SpOk K x) : Fin K { S with cs := S.cs.set n x } := ⟨h.fr, h.ch, fun s hs => (List.mem_or_eq_of_mem_set hs).elim (h.sp s) fun e => by rw [e]; exact hx⟩
def dwn (p : Nat) (e : Int) : List Nat := down p (e + 1 - p).toNat
theorem dwn_ends {p q : Nat} : dwn p q = ends p q := by unfold dwn ends; congr 1; omega
theorem dwn_nil {p : Nat} {e : Int} (h : ¬ e ≥ p) : dwn p e = [] := by unfold dwn; rw [show (e + 1 - (p : Int)).toNat = 0 by omega]; rfl
theorem dwn_cons {p : Nat} {e : Nat} (h : p ≤ e) : dwn p e = e :: dwn p ((e : Int) - 1) := by
  unfold dwn
  rw [show ((e : Int) + 1 - (p : Int)).toNat = (e - p) + 1 by omega, down, show ((e : Int) - 1 + 1 - (p : Int)).toNat = e - p by omega]
  congr 1; omega
end Go.HL.Kl.Mc
namespace Go.Proofs.YtloepfcndglmmaaDoor
open Go Go.HL Go.Proofs Go.HL.Kl Go.HL.Kl.Mc Go.HL.Kl.Mc.AskE
theorem hin_app {A B H : Hp} (h1 : HIn A H) (h2 : HIn B H) : HIn (A ++ B) H := fun p hp => (List.mem_append.1 hp).elim (h1 p) (h2 p)
def Sz (S : SS) : Prop := S.fs.length ≤ 1000000000000 ∧ S.ts.length ≤ 1000000000000
theorem Sz.gr {S S' : SS} (h : Sz S') (g : Gr S S') : Sz S := ⟨Nat.le_trans g.fs h.1, Nat.le_trans g.ts h.2⟩
structure BkE.ok (K : BkE) : Prop where
  part : ∃ f, Part K.re f 0 K.re.length
  len : K.re.length ≤ 1000000
  wl : K.w.length ≤ 1000000
  N : K.N ≤ 1000000
  bl : BehI K.re K.bl K.re.length
  ok : K.sr.ok K.N
  R : ∀ r ∈ K.R, r ≤ K.N
  Rl : K.R.length ≤ 1000000
theorem BkE.ok.at_ {K : BkE} (h : K.ok) {k : Nat} {x : Nd} (hx : K.re[k]? = some x) : ∃ ks e, Part K.re (.nd x ks .nil) k e := by
  obtain ⟨f, hf⟩ := h.part
  obtain ⟨y, js, r, e, hp⟩ := part_at f 0 _ hf k (Nat.zero_le _) (List.getElem?_eq_some_iff.1 hx).1
  have h1 := hp.head.1
  rw [hx] at h1
  cases h1
  exact ⟨js, _, hp.one⟩
theorem BkE.ok.rng {K : BkE} (h : K.ok) {x : Nd} (hx : x ∈ K.re) : ndOk x = true := by
  obtain ⟨k, hk⟩ := List.mem_iff_getElem?.1 hx
  obtain ⟨ks, e, hp⟩ := h.at_ hk
  exact hp.wf.1
theorem BkE.ok.g7 {K : BkE} (h : K.ok) : ∀ x ∈ K.re, x.op = 7 → 0 ≤ x.n ∧ x.n ≤ K.N := fun x hx h7 => by
  have := h.ok.grp x hx h7
  omega
theorem BkE.ok.r8 {K : BkE} (h : K.ok) : ∀ x ∈ K.re, x.op = 8 → 0 ≤ x.n ∧ x.n ≤ K.N := fun x hx h8 => by
  obtain ⟨h1, h2⟩ := h.ok.ref x hx h8
  have := h.R _ h2
  omega
theorem op_rng {x : Nd} (h : ndOk x = true) : 1 ≤ x.op ∧ x.op ≤ 8 := (flds_iff.1 (by simp only [ndOk, Bool.and_eq_true] at h; exact h.1)).1
theorem BkE.ok.beh {K : BkE} (h : K.ok) {k e : Nat} {x : Nd} {ks r : F} (hp : Part K.re (.nd x ks r) k e) : K.bl[k]? = some (k + 1 + ks.size) ∧ K.sr.bh k = k + 1 + ks.size ∧ k + 1 + ks.size ≤ K.re.length := by
  have hk := (List.getElem?_eq_some_iff.1 hp.head.1).1
  exact ⟨h.bl.2 k x ks r e hk hp, SrE.bh_eq (K := K.sr) hp.one, hp.one.le⟩
def AnsB (K : BkE) (S' : SS) (b : Bool) (v : Value) (H' : Hp) : Prop := ∃ s', v = .bool b ∧ H' = ((K.obj s') :: K.tl s') ∧ K.Rep s' ∧ Fin K.sr s'.S ∧ s'.S = S'
def TakeB (K : BkE) (n : Nat) : Prop := ∀ (s : BkS) (at_ i j up : Nat) (b : Bool) (S' : SS), K.Rep s → Fin K.sr s.S → at_ < K.re.length → i ≤ j → j ≤ K.w.length → up ≤ s.S.fs.length → Ev K.sr s.S (.take at_ i j up) b S' → s.S.fuel ≤ n → Sz S' →
  HL.Fn Tryd.prog 47 [pt K.b, .int .i64 at_, .agg (Esp ⟨i, j⟩).toArray, .int .i64 up] (fun W => K.Env W (keys (K.obj s :: K.tl s))) (K.obj s :: K.tl s) (AnsB K S' b)
def NextB (K : BkE) (n u : Nat) : Prop := ∀ (s : BkS) (at_ : Nat) (b : Bool) (S' : SS), K.Rep s → Fin K.sr s.S → u ≤ s.S.fs.length → at_ ≤ K.w.length → Ev K.sr s.S (.next u at_) b S' → s.S.fuel ≤ n → Sz S' →
  HL.Fn Tryd.prog 84 [pt K.b, .int .i64 u, .int .i64 at_] (fun W => K.Env W (keys (K.obj s :: K.tl s))) (K.obj s :: K.tl s) (AnsB K S' b)
def RowB (K : BkE) (n v : Nat) : Prop := ∀ (s : BkS) (f : Frm) (x : Nd) (at_ : Nat) (b : Bool) (S' : SS), K.Rep s → Fin K.sr s.S → FrOk K.sr f → K.re[f.node]? = some x → x.op = 4 → f.up = v → v ≤ s.S.fs.length → at_ ≤ K.w.length → Ev K.sr s.S (.row f at_) b S' → s.S.fuel ≤ n → Sz S' →
  HL.Fn Tryd.prog 104 [pt K.b, .agg (Efr f).toArray, .int .i64 at_] (fun W => K.Env W (keys (K.obj s :: K.tl s))) (K.obj s :: K.tl s) (AnsB K S' b)
def RndB (K : BkE) (n v : Nat) : Prop := ∀ (s : BkS) (f : Frm) (x : Nd) (at_ : Nat) (b : Bool) (S' : SS), K.Rep s → Fin K.sr s.S → FrOk K.sr f → K.re[f.node]? = some x → x.op = 6 → f.up = v → v ≤ s.S.fs.length → at_ ≤ K.w.length → Ev K.sr s.S (.rnd f at_) b S' → s.S.fuel ≤ n → Sz S' →
  HL.Fn Tryd.prog 105 [pt K.b, .agg (Efr f).toArray, .int .i64 at_] (fun W => K.Env W (keys (K.obj s :: K.tl s))) (K.obj s :: K.tl s) (AnsB K S' b)
theorem mem_if {α : Type} {p a : Pt} {l : List Pt} {u v : α} : (if p = a then u else if p ∈ l then u else v) = if p ∈ a :: l then u else v := by
  by_cases h : p = a
  · rw [if_pos h, if_pos (by rw [h]; exact List.mem_cons_self)]
  · rw [if_neg h]
    by_cases h2 : p ∈ l
    · rw [if_pos h2, if_pos (List.mem_cons_of_mem _ h2)]
    · rw [if_neg h2, if_neg fun h3 => (List.mem_cons.1 h3).elim h h2]
theorem fr_sp {f : Frm} : ∀ (j : Nat) u, (Esp ⟨(f.fr : Nat), (f.to : Nat)⟩)[j]? = some u → (Efr f)[0 + 4 + j]? = some u := fun j u h => by
  match j, h with
  | 0, h => exact h
  | 1, h => exact h
theorem stateB_fn (K : BkE) (hK : K.ok) (s : BkS) (hR : K.Rep s) (hF : Fin K.sr s.S) (hz : s.S.ts.length ≤ 1000000000000) : HL.Fn Tryd.prog 103 [pt K.b] (fun W => K.Env W (keys (K.obj s :: K.tl s))) (K.obj s :: K.tl s) (fun v S' => ∃ s', v = .int .i64 ((K.sr.code s.S).1 : Nat) ∧ S' = ((K.obj s') :: K.tl s') ∧ K.Rep s' ∧ Fin K.sr s'.S ∧ s'.S = { (K.sr.code s.S).2 with wk := s.S.wk + 1 }) :=
  Fn.sub (stateK_fn K s hR hK.R hK.Rl hz) fun v S' ⟨et', ct', h1, h2, h3⟩ => ⟨S', HSub.refl _, { s with S := { (K.sr.code s.S).2 with wk := s.S.wk + 1 }, et := et', ct := ct' }, h1, h2, ⟨h3.fr, h3.sp, h3.cl, h3.en, h3.et, h3.el, h3.ef⟩, ⟨hF.fr, hF.ch, hF.sp⟩, rfl⟩
theorem bEqual_fn (a1 : Option Addr) (c1 : Nat) (l1 : List UInt8) (a2 : Option Addr) (c2 : Nat) (l2 : List UInt8) : HL.Fn Tryd.prog 85 [.slice a1 l1.length c1, .slice a2 l2.length c2] (fun W => Rd Eb W (.slice a1 l1.length c1) l1 ∧ Rd Eb W (.slice a2 l2.length c2) l2) [] (fun v _ => v = .bool (decide (l1 = l2))) := by
  refine fn_of Tryd.func85 rfl rfl rfl fun w0 hw => ?_; refine cR fun _ hK1 => ?_; refine oA (oZ hK1 (cR fun _ hK2 => ?_)); refine oM ?_; refine oS (s_b2str rfl (RdK.old0 hw.1) rfl) ?_; refine oM ?_; refine oS (s_b2str rfl (RdK.old0 hw.2) rfl) ?_; refine oS (step_cast (v' := .bool (decide (l1 = l2))) (s_eql_str rfl rfl) (by congr 1; exact decide_eq_decide.2 ⟨fun h => by injection h with h; exact Array.toList_inj.2 h |> fun h => by simpa using h, fun h => by rw [h]⟩)) ?_; refine oA (oZ hK2 (c_ret ?_)); refine ?_; exact xR rfl rfl (rfl)
set_option maxHeartbeats 4000000 in
theorem nextK_fn (K : BkE) (hK : K.ok) (n : Nat) (s : BkS) (u at_ : Nat) (b : Bool) (S' : SS) (hR : K.Rep s) (hF : Fin K.sr s.S) (hu : u ≤ s.S.fs.length) (hat : at_ ≤ K.w.length) (hE : Ev K.sr s.S (.next u at_) b S') (hn : s.S.fuel ≤ n) (hz : Sz S') (hrow : ∀ v, v < u → RowB K n v) (hrnd : ∀ v, v < u → RndB K n v) (hnx : ∀ v, v < u → NextB K n v) : HL.Fn Tryd.prog 84 [pt K.b, .int .i64 u, .int .i64 at_] (fun W => K.Env W (keys (K.obj s :: K.tl s))) (K.obj s :: K.tl s) (AnsB K (S') (b)) := by
  refine fn_of Tryd.func84 rfl rfl rfl fun w0 hw => ?_
  have hsl := hw.d1.sl
  have hwl := hK.wl
  have hrl := hK.len
  have hz1 := hz.gr hE.mono
  have hzl := hz1.1
  refine cR fun _ hK1 => ?_; refine oA (oZ hK1 (c_seq fun _ hK2 => ?_)); refine cR fun _ hK3 => ?_; refine oM ?_
  by_cases hu0 : (u : Int) = 0
  ·obtain rfl : u = 0 := by omega
   obtain ⟨rfl, rfl⟩ := hE.iNext0
   refine oS eqT (oZ hK3 ?_); refine cT (cR fun _ hK4 => ?_); refine oA (oZ hK4 (c_ret ?_)); refine x_then_ret (?_); refine x_sub (Sub.refl _) (H' := (K.obj s :: K.tl s)) hzB ?_; exact xR rfl rfl (⟨s, rfl, rfl, hR, hF, rfl⟩)
  ·obtain ⟨k, rfl⟩ : ∃ k, u = k + 1 := ⟨u - 1, by omega⟩
   refine oS eqF (oZ hK3 ?_); refine cFZ hK2 (cR fun _ hK5 => ?_); refine oM (oM (oM ?_)); refine o_call (stateB_fn K hK s hR hF hz1.2) rfl rfl rfl pkA (fun w st => hw.out st (hin_cons meA (hin_cons meA (hin_cons meA (hin_cons meA (hin_app hiA hiA)))))) (fun v17 S17 ⟨s1, hv17, hS17, hR1, hF1, he1⟩ => ?_); subst hv17
   subst hS17; refine oS (s_build (cs := [_, _, _]) (vs := [_, _, _]) rfl rfl (.cons rfl rfl rfl rfl rfl (.cons rfl rfl rfl rfl rfl (.cons rfl rfl rfl rfl rfl (.nil))))) ?_; refine o_alloc rfl rfl fun b7 => ?_; refine o_stW rfl rfl upA lnA lnA onA ?_; refine oZ hK5 (c_seq fun _ hK6 => ?_); refine c_seq fun _ hK7 => ?_; refine c_quiet (by kernel_rfl) ?_; refine .op rfl (s_move rfl) ?_; refine .op rfl (s_nil rfl) ?_; refine .op rfl (s_field rfl rfl (by decide)) ?_; refine .op rfl (s_ld rfl (.own meA rfl)) ?_; refine .op rfl (s_ldB rfl (RdPK.cels (.own meA)) lnA) ?_
   by_cases hm : (⟨k + 1, at_, (K.sr.code s.S).1⟩ : Pt) ∈ s.S.F
   ·obtain ⟨rfl, rfl⟩ : b = false ∧ S' = (K.sr.code s.S).2 := hE.iNext.elim (fun h => h.2) fun h => absurd hm h.1
    refine .op rfl (step_cast (v' := .bool true) (s_look2 (Ek := EkP) (k := (⟨k + 1, at_, (K.sr.code s.S).1⟩ : Pt)) rfl rfl meA) (by rw [hR1.ef, he1]; show (if (⟨k + 1, at_, (K.sr.code s.S).1⟩ : Pt) ∈ s.S.F then _ else _ : Option Value).getD _ = _; rw [if_pos hm]; rfl)) ?_; refine .nil ?_; refine xZ hK7 ?_; refine cT (cR fun _ hK8 => ?_); refine oA (oZ hK8 (c_ret ?_)); refine x_then_ret (?_); refine x_sub (Sub.refl _) (H' := ((K.obj s1) :: K.tl s1)) hzB ?_
    exact xR rfl rfl (⟨{ s1 with S := { s1.S with wk := (K.sr.code s.S).2.wk } }, rfl, rfl, ⟨hR1.fr, hR1.sp, hR1.cl, hR1.en, hR1.et, hR1.el, hR1.ef⟩, ⟨hF1.fr, hF1.ch, hF1.sp⟩, by rw [he1]⟩)
   ·obtain ⟨_, f, S2, hf, hE2, hS2⟩ := hE.iNext.resolve_left fun h => hm h.1
    rw [← he1] at hE2
    have hf1 := hF.fr f (List.mem_of_getElem? hf)
    have hfu := hF.ch k f hf
    have hz2 : Sz S2 := hz.gr (by rw [hS2]; exact fail_gr)
    have hzz := hz2.gr hE2.mono
    have hfk : (zeroF :: s1.S.fs)[k + 1]? = some f := by rw [he1]; exact hf
    have hfl : s1.S.fs.length = s.S.fs.length := by rw [he1]; rfl
    have hn1 : s1.S.fuel ≤ n := by rw [he1]; exact hn
    have hfsl := hR1.fr.sl
    obtain ⟨x, ks, e0, hp0, hto, hcase⟩ := hf1
    have hto : f.to ≤ K.w.length := hto
    have hx : K.re[f.node]? = some x := hp0.head.1
    have hxm := List.mem_of_getElem? hx
    have hop := op_rng (hK.rng hxm)
    have hnl := (List.getElem?_eq_some_iff.1 hx).1
    refine .op rfl (step_cast (v' := .bool false) (s_look2 (Ek := EkP) (k := (⟨k + 1, at_, (K.sr.code s.S).1⟩ : Pt)) rfl rfl meA) (by rw [hR1.ef, he1]; show (if (⟨k + 1, at_, (K.sr.code s.S).1⟩ : Pt) ∈ s.S.F then _ else _ : Option Value).getD _ = _; rw [if_neg hm]; rfl)) ?_; refine .nil ?_; refine xZ hK7 ?_; refine cFZ hK6 (cR fun _ hK9 => ?_); refine oM ?_; refine oS sN ?_; refine oS sF ?_; refine oS sL (oM ?_); refine oS (s_idx rfl rfl hfsl (by rw [List.length_cons]; omega)) ?_; refine oS (s_ldB rfl ((hR1.fr.rdk hiA).cels hfk) lnA) ?_; refine o_alloc rfl rfl fun b8 => ?_; refine o_stW rfl rfl upA lnA lnA onA ?_; refine oZ hK9 ?_
    refine cR fun _ hK10 => ?_; refine oA (oZ hK10 ?_); refine c_seqJ (ι := BkS) (fun q => K.Rep q ∧ Fin K.sr q.S ∧ q.S = S2) (fun q => [(9, .bool b)]) [(0, _), (6, _), (7, _)] (fun q => (b7, .cells [.int .i64 (k + 1 : Nat), .int .i64 at_, .int .i64 ((K.sr.code s.S).1 : Nat)].toArray 187 (0, 0)) :: ((K.obj q) :: K.tl q)) sbA ?_ ?_
    ·rintro q ⟨hRq, hFq, heq⟩
     refine c_seq fun _ hK12 => ?_; refine cR fun _ hK13 => ?_; refine oM ?_
     by_cases hbb : b = false
     ·refine oS (step_cast (v' := .bool true) (s_not rfl) (by rw [hbb]; rfl)) ?_; refine oM ?_; refine oY (oM ?_); refine oY ?_; refine oS sN ?_; refine oY ?_; refine oS sF ?_; refine oY ?_; refine oS sL ?_; refine oY ?_; refine oS (s_not rfl) ?_; refine oS sT (oZ hK13 ?_); refine cT ?_; refine c_tail 5 (by kernel_rfl) ?_; refine .op rfl (s_move rfl) ?_; refine .op rfl (s_nil rfl) ?_; refine .op rfl (s_field rfl rfl (by decide)) ?_; refine .op rfl (s_ld rfl (.own meA rfl)) ?_; refine .op rfl (s_ldB rfl (RdPK.cels (.own meA)) lnA) ?_; refine .nil ?_; refine o_mset2 (Ek := EkP) (k := (⟨k + 1, at_, (K.sr.code s.S).1⟩ : Pt)) rfl rfl rfl pkA fun ef' cf' hsf' hlf' => ?_; refine oZ hK12 (cR fun _ hK14 => ?_); refine oM (oA (oZ hK14 (c_ret ?_))); refine ?_; refine x_sub (Sub.refl _) (H' := ((K.obj ({ q with S := { q.S with F := (⟨k + 1, at_, (K.sr.code s.S).1⟩ : Pt) :: q.S.F }, ef := ef', cf := cf' } : BkS)) :: K.tl ({ q with S := { q.S with F := (⟨k + 1, at_, (K.sr.code s.S).1⟩ : Pt) :: q.S.F }, ef := ef', cf := cf' } : BkS))) hzB ?_
      exact xR rfl rfl (⟨{ q with S := { q.S with F := (⟨k + 1, at_, (K.sr.code s.S).1⟩ : Pt) :: q.S.F }, ef := ef', cf := cf' }, rfl, rfl, ⟨hRq.fr, hRq.sp, hRq.cl, hRq.en, hRq.et, hRq.el, fun p => by show getM ef' p = if p ∈ (⟨k + 1, at_, (K.sr.code s.S).1⟩ : Pt) :: q.S.F then _ else _; rw [hsf' p, hRq.ef p]; exact mem_if⟩, ⟨hFq.fr, hFq.ch, hFq.sp⟩, by rw [hS2, heq, hbb]; rfl⟩)
     ·have hbt : b = true := by simpa using hbb
      refine oS (step_cast (v' := .bool false) (s_not rfl) (by rw [show b = true by simpa using hbb]; rfl)) ?_; refine oM ?_; refine oN ?_; refine oN ?_; refine oN ?_; refine oN ?_; refine oN ?_; refine oS sP (oZ hK13 ?_); refine cFZ hK12 (cR fun _ hK15 => ?_); refine oM (oA (oZ hK15 (c_ret ?_))); refine ?_; refine x_sub (Sub.refl _) (H' := ((K.obj q) :: K.tl q)) hzB ?_
      exact xR rfl rfl (⟨q, rfl, rfl, hRq, hFq, by rw [hS2, heq, hbt]; rfl⟩)
    ·intro _ hJ11
     refine c_seq fun _ hK16 => ?_; refine c_quiet (by kernel_rfl) ?_; refine .op rfl (s_move rfl) ?_; refine .op rfl (s_nil rfl) ?_; refine .op rfl (s_field rfl rfl (by decide)) ?_; refine .op rfl (s_ld rfl (.own meA rfl)) ?_; refine .op rfl (s_field rfl rfl (by decide)) ?_; refine .op rfl (s_ld rfl (.own meA rfl)) ?_; refine .op rfl (s_idx rfl rfl hsl (by omega)) ?_; refine .op rfl (s_field rfl rfl (by decide)) ?_; refine .op rfl (s_ld rfl ((RdK.old hw.d1 hw.a1).ld f.node 0 hx rfl (by decide) (by omega))) ?_; refine .nil ?_; refine xZ hK16 (c_block (cR fun _ hK17 => ?_))
     by_cases h4 : x.op = 4
     ·refine oS (eqT (h := h4)) ?_; refine oA (oZ hK17 ?_); refine cT (c_region (oM ?_)); refine oS (s_ldB rfl (RdPK.cels (.own meA)) lnA) ?_; refine oM ?_; refine o_call (hrow f.up (by omega) s1 f x at_ b S2 hR1 hF1 ⟨x, ks, e0, hp0, hto, hcase⟩ hx h4 rfl (by omega) hat (hE2.iBody4 hx h4) hn1 hz2) rfl rfl rfl pkA (fun w st => hw.out st (hin_cons meA (hin_cons meA (hin_cons meA (hin_cons meA (hin_app hiA hiA)))))) (fun v84 S84 ⟨s2, hv84, hS84, hR2, hF2, he2⟩ => ?_); subst hv84
      subst hS84; refine oA (o_nil (x_block ?_)); exact x_then (hJ11 s2 _ _ ⟨hR2, hF2, he2⟩ sbA sbA hzB)
     ·refine oS (eqF (h := h4)) ?_; refine oA (oZ hK17 ?_); refine cF (cR fun _ hK18 => ?_)
      by_cases h6 : x.op = 6
      ·refine oS (eqT (h := h6)) ?_; refine oA (oZ hK18 ?_); refine cT (c_region (oM ?_)); refine oS (s_ldB rfl (RdPK.cels (.own meA)) lnA) ?_; refine oM ?_; refine o_call (hrnd f.up (by omega) s1 f x at_ b S2 hR1 hF1 ⟨x, ks, e0, hp0, hto, hcase⟩ hx h6 rfl (by omega) hat (hE2.iBody6 hx h6) hn1 hz2) rfl rfl rfl pkA (fun w st => hw.out st (hin_cons meA (hin_cons meA (hin_cons meA (hin_cons meA (hin_app hiA hiA)))))) (fun v90 S90 ⟨s2, hv90, hS90, hR2, hF2, he2⟩ => ?_); subst hv90
       subst hS90; refine oA (o_nil (x_block ?_)); exact x_then (hJ11 s2 _ _ ⟨hR2, hF2, he2⟩ sbA sbA hzB)
      ·have h7 : x.op = 7 := by rcases hcase with h | h | h <;> omega
       obtain ⟨hg1, hg2⟩ := hK.g7 x hxm h7
       have hft : f.fr ≤ f.to := by rcases hcase with h | h | h <;> first | exact h.2 | omega
       obtain ⟨S3, hE3, hS3⟩ := hE2.iBody7 hx h7
       have hsp1 := hR1.sp.sl
       rw [hR1.cl] at hsp1
       have hcl1 := hR1.cl
       obtain ⟨old, hold⟩ : ∃ y, s1.S.cs[x.n.toNat]? = some y := gE
       have hz3 : Sz S3 := hz2.gr (by rw [hS3]; cases b <;> first | exact .refl | exact cs_gr (List.length_set ..))
       have hspn : SpOk K.sr ⟨(f.fr : Nat), (f.to : Nat)⟩ := .inr ⟨by dsimp only; omega, by dsimp only; omega, by dsimp only; show (f.to : Int) ≤ K.w.length; omega⟩
       refine oS (eqF (h := h6)) ?_; refine oA (oZ hK18 ?_); refine cF (c_seq fun _ hK19 => ?_); refine c_quiet (by kernel_rfl) ?_; refine .op rfl (s_move rfl) ?_; refine .op rfl (s_nil rfl) ?_; refine .op rfl (s_field rfl rfl (by decide)) ?_; refine .op rfl (s_ld rfl (.own meA rfl)) ?_; refine .op rfl (s_field rfl rfl (by decide)) ?_; refine .op rfl (s_ld rfl (.own meA rfl)) ?_; refine .op rfl (s_idx rfl rfl hsl (by omega)) ?_; refine .op rfl (s_field rfl rfl (by decide)) ?_; refine .op rfl (s_ld rfl ((RdK.old hw.d1 hw.a1).ld f.node 5 hx rfl (by decide) (by omega))) ?_; refine .op rfl (s_assign rfl) ?_; refine .nil ?_; refine xZ hK19 (cR fun _ hK20 => ?_); refine oM ?_; refine oS sN ?_; refine oS sF ?_; refine oS sL (oM ?_); refine oS (s_idx rfl rfl hsp1 (by omega)) ?_; refine oS (s_ldB rfl ((hR1.sp.rdk hiA).cels hold) lnA) ?_; refine o_alloc (l := Esp ⟨0, 0⟩) rfl rfl fun b11 => ?_; refine o_stW rfl rfl upA lnA lnA onA ?_; refine oZ hK20 (c_seq fun _ hK21 => ?_); refine c_drawE ((b8, .cells (Efr f).toArray 134 (0, 0)) :: ((K.obj s1) :: s1.Ss)) (fun i => Nat.beq i 8) ?_; refine eP 0 rfl sM ?_; refine eP 1 rfl sN ?_
       refine eP 2 rfl sF ?_; refine eK 3 rfl sL ?_; refine eP 4 rfl sM ?_; refine eP 5 rfl sF ?_; refine eK 6 rfl (s_ldB rfl (RdPK.cels (RdPK.own' (cs := Esp ⟨(f.fr : Nat), (f.to : Nat)⟩) meA fr_sp)) lnA) ?_; refine eO 7 rfl ?_; refine oS (s_idx rfl rfl hsp1 (by omega)) ?_; refine oX (eO 8 rfl ?_); refine o_stSE x.n.toNat ⟨(f.fr : Nat), (f.to : Nat)⟩ hR1.sp pkA rfl rfl (by omega) (by rfl) fun S64 hS64 => ?_; refine o_nil ?_; refine x_oneL rfl ?_; refine eZ hK21 (cR fun _ hK22 => ?_); refine oM ?_; refine oS sF ?_; refine oS sL (oM ?_); refine o_call (hnx f.up (by omega) ({ s1 with S := { s1.S with cs := s1.S.cs.set x.n.toNat ⟨(f.fr : Nat), (f.to : Nat)⟩ }, Ss := S64 } : BkS) at_ b S3 ⟨hR1.fr, hS64, by dsimp only; rw [List.length_set]; exact hcl1, hR1.en, hR1.et, hR1.el, hR1.ef⟩ (hF1.set _ hspn) (by dsimp only; omega) hat hE3 hn1 hz3) rfl rfl rfl ((Pick.takeC pkA (Pick.takeC pkA (Pick.takeC pkA (Pick.takeC pkA pkA))))) (fun w st => hw.out st (hin_cons meA (hin_cons meA (hin_cons meA (hin_cons meA (hin_app hiA hiA)))))) (fun v69 S69 ⟨s2, hv69, hS69, hR2, hF2, he2⟩ => ?_); subst hv69
       subst hS69; refine oA (oZ hK22 (cR fun _ hK23 => ?_)); refine oM ?_
       by_cases hbb : b = false
       ·rw [hbb] at hS3
        obtain ⟨old2, hold2⟩ : ∃ y, s2.S.cs[x.n.toNat]? = some y := ⟨_, List.getElem?_eq_getElem (by have := hR2.cl; omega)⟩
        have hsp2 := hR2.sp.sl
        rw [hR2.cl] at hsp2
        have hcl2 := hR2.cl
        refine oS (step_cast (v' := .bool true) (s_not rfl) (by rw [hbb]; rfl)) ?_; refine oZ hK23 ?_; refine cT ?_; refine c_drawE ((b11, .cells (Esp old).toArray 45 (0, 0)) :: ((K.obj s2) :: s2.Ss)) (fun i => Nat.beq i 7) ?_; refine eP 0 rfl sM ?_; refine eP 1 rfl sN ?_; refine eP 2 rfl sF ?_; refine eK 3 rfl sL ?_; refine eP 4 rfl sM ?_; refine eK 5 rfl (s_ldB rfl (RdPK.cels (.own meA)) lnA) ?_; refine eO 6 rfl ?_; refine oS (s_idx rfl rfl hsp2 (by omega)) ?_; refine oX (eO 7 rfl ?_); refine o_stSE x.n.toNat old hR2.sp pkA rfl rfl (by omega) (by rfl) fun S78 hS78 => ?_; refine o_nil ?_; refine x_oneL rfl ?_; refine e_done (by kernel_rfl) ?_; refine x_block ?_; exact x_then (hJ11 ({ s2 with S := { s2.S with cs := s2.S.cs.set x.n.toNat old }, Ss := S78 } : BkS) _ _ ⟨⟨hR2.fr, hS78, by dsimp only; rw [List.length_set]; exact hcl2, hR2.en, hR2.et, hR2.el, hR2.ef⟩, hF2.set _ (hF1.sp _ (List.mem_of_getElem? hold)), by rw [hS3, he2, List.getD_eq_getElem?_getD, hold]; rfl⟩ sbA sbA hzB)
       ·have hbt : b = true := by simpa using hbb
        rw [hbt] at hS3
        refine oS (step_cast (v' := .bool false) (s_not rfl) (by rw [hbt]; rfl)) ?_; refine oZ hK23 ?_; refine cF (c_skip (x_block ?_)); exact x_then (hJ11 s2 _ _ ⟨hR2, hF2, by rw [hS3, he2]; rfl⟩ sbA sbA hzB)
end Go.Proofs.YtloepfcndglmmaaDoor
namespace Go.HL
open Go
structure FnR (P : Program) (f : FuncId) (args : List Value) (pre : World → Prop) (S : Hp) (post : Value → Hp → Prop) : Prop where
  enters : Enters P f
  calls : ∀ w, pre w → Has w S → CallsD P f args.toArray .returning w (fun e u' w' => u' = .returning ∧ Post w (keys S) post e w')
section
variable {P : Program} {a : Act} {w : World}
end
section
variable {P : Program} {w : World} {L : Loc} {H : Hp}
theorem c_label {κ : Cx} {Q : Pst} {l : Nat} (h : X κ (Q .normal) L H) : C P κ Q (.label l) L H := ⟨fun _ a w _ ok => wpIn_label (h.out a w ok)⟩
end
end Go.HL
namespace Go.HL
open Go
section
variable {F : Fence} {n : Nat} {P : Program} {Q : Exit → Act → World → Prop} {b : Frame} {a : Act} {k : List Item} {cs : List Frame} {w : World}
theorem stepR_scope {c : Code} : step P (lone (b.atR a (.code (.scope c) :: k)) cs w) = .next (lone (b.atR a (.code c :: .inScope c :: k)) cs w) :=
  step_lone_go (by simp [stepG, stepG.exec, Frame.atR])
theorem stepR_inScope {c : Code} : step P (lone (b.atR a (.inScope c :: k)) cs w) = .next (lone (b.atR a k) cs w) :=
  step_lone_go (by simp [stepG, stepG.exec, Frame.atR])
theorem wpIn_scope {c : Code} (h : c.wpIn F n P (Exit.noGoto Q) a w) : (Code.scope c).wpIn F n P Q a w := by
  intro b k cs hro hb hr
  have h0 : (lone (b.atR a (.code (.scope c) :: k)) cs w).fenced P F := fenced_calm hb hr rfl
  obtain ⟨e, a₁, w₁, hq, harr⟩ := h b (.inScope c :: k) cs hro hb hr
  cases e with
  | normal => exact ⟨.normal, a₁, w₁, hq, .head h0 stepR_scope (StepsIn.trans harr (.one (fenced_calm hb hr rfl) stepR_inScope))⟩
  | exit id =>
    have hx : exitTo id (.inScope c :: k) = exitTo id k := by simp [exitTo]
    exact ⟨.exit id, a₁, w₁, hq, fun k' hk => .head h0 stepR_scope (harr.1 k' (by rw [hx]; exact hk)),
      fun hr' hk => let ⟨k₁, h1, h2⟩ := harr.2 hr' (by rw [hx]; exact hk); ⟨k₁, h1, .head h0 stepR_scope h2⟩⟩
  | goto l => exact hq.elim
  | ret => exact ⟨_, a₁, w₁, hq, .of_steps (.one h0 stepR_scope) harr⟩
  | panic ch => exact ⟨_, a₁, w₁, hq, .of_steps (.one h0 stepR_scope) harr⟩
  | outgrown => exact ⟨_, a₁, w₁, hq, .of_steps (.one h0 stepR_scope) harr⟩
end
section
variable {P : Program} {κ : Cx} {Q : Pst} {L : Loc} {H : Hp}
theorem c_scope {c : Code} (h : C P κ (Exit.noGoto Q) c L H) : C P κ Q (.scope c) L H := ⟨fun ro a w hr ok => wpIn_scope (h.out ro a w (hr.imp id fun h => by simpa [noDefC] using h) ok)⟩
theorem x_scope (h : X κ (Q .normal) L H) : X κ (Exit.noGoto Q .normal) L H := h
theorem x_scope_ret (h : X κ (Q .ret) L H) : X κ (Exit.noGoto Q .ret) L H := h
end
end Go.HL
