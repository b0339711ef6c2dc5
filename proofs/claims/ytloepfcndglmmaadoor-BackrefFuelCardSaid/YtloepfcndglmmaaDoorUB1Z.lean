/- Part of the proofs over this seat: see the text that holds the theorem. Conditions: each theorem bears its own. -/
import Derived.Test.YtloepfcndglmmaaDoorHTZ
import Derived.Test.YtloepfcndglmmaaDoorBS5Z
import Derived.Test.YtloepfcndglmmaaDoorBE1Z
import Derived.Test.YtloepfcndglmmaaDoorHlB
import Derived.Test.YtloepfcndglmmaaDoorVZN1Z
import Derived.Test.YtloepfcndglmmaaDoorKQZ
namespace Go.Proofs.YtloepfcndglmmaaDoor
open Go Go.HL Go.Proofs Go.HL.Kl Go.HL.Kl.Mc Go.HL.Kl.Mc.AskE
structure BkE where
  (b : Nat) (ra : Option Addr) (rc : Nat) (re : List Nd) (ta : Option Addr) (tc : Nat) (w : List UInt8) (ba : Option Addr) (bc : Nat) (bl : List Nat) (xa : Option Addr) (xc : Nat) (R : List Nat) (bn bt bf : Nat) (sa : Option Addr) (sc N : Nat)
structure BkS where
  (S : SS) (fa : Option Addr) (fc : Nat) (Sf Ss : Hp) (en : List (Mx Frm)) (cn : Nat) (et : List (Mx Tk4)) (ct : Nat) (ef : List (Mx Pt)) (cf : Nat) (d : Bool)
def zeroF : Frm := ⟨0, 0, 0, 0, 0, 0⟩
namespace BkE
def sr (K : BkE) : SrE := ⟨K.re, K.w, K.R⟩
abbrev obj (K : BkE) (s : BkS) : Nat × Obj := (K.b, .cells [.slice K.ra K.re.length K.rc, .slice K.ta K.w.length K.tc, .slice K.ba K.bl.length K.bc, .slice K.xa K.R.length K.xc, .slice s.fa (zeroF :: s.S.fs).length s.fc, .map (some K.bn), .map (some K.bt), .map (some K.bf), .slice K.sa (K.N + 1) K.sc, .int .i64 (s.S.fuel : Nat), .bool s.d].toArray 103 (0, 0))
abbrev tl (K : BkE) (s : BkS) : Hp := (K.bn, mxO EkF s.en s.cn) :: (K.bt, mxO EkT s.et s.ct) :: (K.bf, mxO EkP s.ef s.cf) :: (s.Sf ++ s.Ss)
def H (K : BkE) (s : BkS) : Hp := K.obj s :: K.tl s
structure Rep (K : BkE) (s : BkS) : Prop where
  fr : OwnS Efr 6 134 (.slice s.fa (zeroF :: s.S.fs).length s.fc) (zeroF :: s.S.fs) s.Sf
  sp : OwnS Esp 2 45 (.slice K.sa (K.N + 1) K.sc) s.S.cs s.Ss
  cl : s.S.cs.length = K.N + 1
  en : ∀ f, getM s.en f = (fnd f s.S.fs).map fun k => .int .i64 ((k + 1 : Nat) : Int)
  et : ∀ t : Tk4, getM s.et t = (fnd t.t s.S.ts).map fun k => .int .i64 ((k + 1 : Nat) : Int)
  el : s.et.length = s.S.ts.length
  ef : ∀ p, getM s.ef p = if p ∈ s.S.F then some (.bool true) else none
structure Env (K : BkE) (W : World) (M : List Nat) : Prop where
  d1 : Rd En W (.slice K.ra K.re.length K.rc) K.re
  a1 : Apart M (.slice K.ra K.re.length K.rc)
  d2 : Rd Eb W (.slice K.ta K.w.length K.tc) K.w
  a2 : Apart M (.slice K.ta K.w.length K.tc)
  d3 : Rd Eix W (.slice K.ba K.bl.length K.bc) K.bl
  a3 : Apart M (.slice K.ba K.bl.length K.bc)
  d4 : Rd Eix W (.slice K.xa K.R.length K.xc) K.R
  a4 : Apart M (.slice K.xa K.R.length K.xc)
  g : RdP W 0 0 (Esp noS)
  ga : 0 ∉ M
theorem Env.out {K : BkE} {w0 w : World} {M : List Nat} {H S : Hp} (h : K.Env w0 M) (st : St w0 w M H) (hin : HIn S H) : K.Env w (keys S) :=
  ⟨(RdK.old (κ := ⟨0, [], w0, M⟩) (H := H) h.d1 h.a1).out w st, st.apart_M hin h.d1 h.a1 (by decide), (RdK.old (κ := ⟨0, [], w0, M⟩) (H := H) h.d2 h.a2).out w st, st.apart_M hin h.d2 h.a2 (by decide),
    (RdK.old (κ := ⟨0, [], w0, M⟩) (H := H) h.d3 h.a3).out w st, st.apart_M hin h.d3 h.a3 (by decide), (RdK.old (κ := ⟨0, [], w0, M⟩) (H := H) h.d4 h.a4).out w st, st.apart_M hin h.d4 h.a4 (by decide),
    (RdPK.old (κ := ⟨0, [], w0, M⟩) (H := H) h.g h.ga).out w st, st.notin hin h.g (by simp [Esp]) h.ga⟩
end BkE
set_option maxHeartbeats 1000000 in
theorem pushK_fn (K : BkE) (s : BkS) (hR : K.Rep s) (f : Frm) (hfl : s.S.fs.length ≤ 1000000000000) : HL.Fn Tryd.prog 86 [pt K.b, .agg (Efr f).toArray] (fun _ => True) ((K.b, .cells [.slice K.ra K.re.length K.rc, .slice K.ta K.w.length K.tc, .slice K.ba K.bl.length K.bc, .slice K.xa K.R.length K.xc, .slice s.fa (zeroF :: s.S.fs).length s.fc, .map (some K.bn), .map (some K.bt), .map (some K.bf), .slice K.sa (K.N + 1) K.sc, .int .i64 (s.S.fuel : Nat), .bool s.d].toArray 103 (0, 0)) :: K.tl s) (fun v S' => ∃ s', v = .int .i64 ((s.S.push f).1 : Nat) ∧ S' = ((K.b, .cells [.slice K.ra K.re.length K.rc, .slice K.ta K.w.length K.tc, .slice K.ba K.bl.length K.bc, .slice K.xa K.R.length K.xc, .slice s'.fa (zeroF :: s'.S.fs).length s'.fc, .map (some K.bn), .map (some K.bt), .map (some K.bf), .slice K.sa (K.N + 1) K.sc, .int .i64 (s'.S.fuel : Nat), .bool s'.d].toArray 103 (0, 0)) :: K.tl s') ∧ K.Rep s' ∧ s'.S = (s.S.push f).2 ∧ s'.Ss = s.Ss ∧ s'.d = s.d) := by
  refine fn_of Tryd.func86 rfl rfl rfl fun w0 hw => ?_
  have hfs := hR.fr.sl
  refine cR fun _ hK1 => ?_; refine o_box rfl rfl rfl fun b3 => ?_; refine oA (oZ hK1 (c_seq fun _ hK2 => ?_)); refine c_quiet (by kernel_rfl) ?_; refine .op rfl (s_move rfl) ?_; refine .op rfl (s_nil rfl) ?_; refine .op rfl (s_field rfl rfl (by decide)) ?_; refine .op rfl (s_ld rfl (.own meA rfl)) ?_; refine .op rfl (s_ldB rfl (RdPK.cels (.own meA)) lnA) ?_; refine .op rfl (s_look2k (Ek := EkF) (k := f) rfl rfl meA) ?_; refine .op rfl (s_move rfl) ?_; refine .op rfl (s_extract rfl rfl) ?_
  by_cases hs : (fnd f s.S.fs).isSome = true
  ·obtain ⟨k, hk⟩ := Option.isSome_iff_exists.1 hs
   have hpu := push_some hk
   refine .op rfl (step_cast (v' := .bool true) (s_extract rfl rfl) (by show Value.bool (getM s.en f).isSome = _; rw [hR.en f, hk]; rfl)) ?_; refine .op rfl (s_assign rfl) ?_; refine .op rfl (s_assign rfl) ?_; refine .nil ?_; refine xZ hK2 (c_seq fun _ hK3 => ?_); refine cR fun _ hK4 => ?_; refine oM ?_; refine oS (s_not rfl) ?_; refine oZ hK4 ?_; refine cFZ hK3 (cR fun _ hK5 => ?_); refine oM (oA (oZ hK5 (c_ret ?_))); refine ?_; refine x_sub (Sub.refl _) (H' := ((K.b, .cells [.slice K.ra K.re.length K.rc, .slice K.ta K.w.length K.tc, .slice K.ba K.bl.length K.bc, .slice K.xa K.R.length K.xc, .slice s.fa (zeroF :: s.S.fs).length s.fc, .map (some K.bn), .map (some K.bt), .map (some K.bf), .slice K.sa (K.N + 1) K.sc, .int .i64 (s.S.fuel : Nat), .bool s.d].toArray 103 (0, 0)) :: K.tl s)) hzB ?_
   exact xR rfl rfl (⟨s, by rw [hpu]; show (getM s.en f).getD _ = _; rw [hR.en f, hk]; rfl, rfl, hR, by rw [hpu], rfl, rfl⟩)
  ·have hk : fnd f s.S.fs = none := by simpa using hs
   have hpu := push_none hk
   refine .op rfl (step_cast (v' := .bool false) (s_extract rfl rfl) (by show Value.bool (getM s.en f).isSome = _; rw [hR.en f, hk]; rfl)) ?_; refine .op rfl (s_assign rfl) ?_; refine .op rfl (s_assign rfl) ?_; refine .nil ?_; refine xZ hK2 (c_seq fun _ hK6 => ?_); refine cR fun _ hK7 => ?_; refine oM ?_; refine oS (s_not rfl) ?_; refine oZ hK7 ?_; refine cT (cR fun _ hK8 => ?_); refine oM ?_; refine oS sN ?_; refine oS sF ?_; refine oS sL ?_; refine oS sC (oA (oZ hK8 (c_seq fun _ hK9 => ?_))); refine c_tail 6 (by kernel_rfl) ?_; refine .op rfl (s_move rfl) ?_; refine .op rfl (s_nil rfl) ?_; refine .op rfl (s_field rfl rfl (by decide)) ?_; refine .op rfl (s_ld rfl (.own meA rfl)) ?_; refine .op rfl (s_ldB rfl (RdPK.cels (.own meA)) lnA) ?_; refine .op rfl (s_move rfl) ?_; refine .nil ?_; refine o_mset2 (Ek := EkF) (k := f) rfl rfl rfl pkA fun en' cn' hen' hel' => ?_; refine oZ hK9 ?_; refine c_drawE ([(K.b, .cells [.slice K.ra K.re.length K.rc, .slice K.ta K.w.length K.tc, .slice K.ba K.bl.length K.bc, .slice K.xa K.R.length K.xc, .slice s.fa (zeroF :: s.S.fs).length s.fc, .map (some K.bn), .map (some K.bt), .map (some K.bf), .slice K.sa (K.N + 1) K.sc, .int .i64 (s.S.fuel : Nat), .bool s.d].toArray 103 (0, 0)), (b3, .cells (Efr f).toArray 134 (0, 0))]) (fun i => Nat.beq i 10) ?_; refine eP 0 rfl sM ?_; refine eP 1 rfl sM ?_; refine eP 2 rfl sN ?_; refine eP 3 rfl sF ?_
   refine eK 4 rfl sL ?_; refine eK 5 rfl (s_ldB rfl (RdPK.cels (.own meA)) lnA) ?_; refine eO 6 rfl ?_; refine o_bs (E := Efr) (xs := [f]) (vs := [_]) rfl rfl rfl rfl rfl (by decide) (by decide) fun b35 S35 hS35 => ?_; refine oX (eO 7 rfl ?_); refine o_app hR.fr (hS35.rdk hiA) rfl rfl rfl rfl (by simp; omega) (by simp; omega) rfl pkA fun a36 c36 S36 hS36 => ?_; refine oX (eO 8 rfl ?_); refine oS sN (oX (eO 9 rfl ?_)); refine oS sF (oX (eO 10 rfl ?_)); refine o_store rfl rfl rfl upA ltA rfl ?_; refine o_nil ?_; refine x_oneL rfl ?_; refine eZ hK6 (cR fun _ hK10 => ?_); refine oM (oA (oZ hK10 (c_ret ?_))); refine ?_; refine x_sub (Sub.refl _) (H' := ((K.b, .cells [.slice K.ra K.re.length K.rc, .slice K.ta K.w.length K.tc, .slice K.ba K.bl.length K.bc, .slice K.xa K.R.length K.xc, .slice ({ s with S := { s.S with fs := s.S.fs ++ [f] }, fa := a36, fc := c36, Sf := S36, en := en', cn := cn' } : BkS).fa (zeroF :: ({ s with S := { s.S with fs := s.S.fs ++ [f] }, fa := a36, fc := c36, Sf := S36, en := en', cn := cn' } : BkS).S.fs).length ({ s with S := { s.S with fs := s.S.fs ++ [f] }, fa := a36, fc := c36, Sf := S36, en := en', cn := cn' } : BkS).fc, .map (some K.bn), .map (some K.bt), .map (some K.bf), .slice K.sa (K.N + 1) K.sc, .int .i64 (({ s with S := { s.S with fs := s.S.fs ++ [f] }, fa := a36, fc := c36, Sf := S36, en := en', cn := cn' } : BkS).S.fuel : Nat), .bool ({ s with S := { s.S with fs := s.S.fs ++ [f] }, fa := a36, fc := c36, Sf := S36, en := en', cn := cn' } : BkS).d].toArray 103 (0, 0)) :: K.tl ({ s with S := { s.S with fs := s.S.fs ++ [f] }, fa := a36, fc := c36, Sf := S36, en := en', cn := cn' } : BkS))) hzB ?_
   exact xR rfl rfl (⟨{ s with S := { s.S with fs := s.S.fs ++ [f] }, fa := a36, fc := c36, Sf := S36, en := en', cn := cn' }, by rw [hpu]; rfl, rfl, ⟨hS36, hR.sp, hR.cl, fun g => by show getM en' g = (fnd g (s.S.fs ++ [f])).map _; rw [hen' g, fnd_snoc hk, hR.en g]; split <;> rfl, hR.et, hR.el, hR.ef⟩, by rw [hpu], rfl, rfl⟩)
end Go.Proofs.YtloepfcndglmmaaDoor
namespace Go.Proofs.YtloepfcndglmmaaDoor
open Go Go.HL Go.Proofs Go.HL.Kl Go.HL.Kl.Mc Go.HL.Kl.Mc.AskE
def chk (l : List Sp) (q k : Nat) : List Sp := (List.range 4).map fun i => if i < k then l.getD (4 * q + i) zSp else zSp
theorem chk_len {l : List Sp} {q k : Nat} : (chk l q k).length = 4 := by simp [chk]
theorem chk_4 {l : List Sp} {q : Nat} : chk l q 4 = chunk l q := rfl
theorem chk_out {l : List Sp} {q k : Nat} (h : ¬ 4 * q + k < l.length) : chk l q (k + 1) = chk l q k := by
  refine List.map_congr_left fun i hi => ?_
  have hi := List.mem_range.1 hi
  by_cases h1 : i < k
  · rw [if_pos h1, if_pos (by omega)]
  · rw [if_neg h1]
    split
    · rw [List.getD_eq_getElem?_getD, List.getElem?_eq_none (by omega)]; rfl
    · rfl
theorem tk_len {n : Nat} {l : List Sp} {q k : Nat} : (intsV .i64 (TkI ⟨n, chk l q k⟩)).length = 9 := rfl
theorem tk_splice {n q k : Nat} {l : List Sp} {x : Sp} (hk : k < 4) (hx : l[4 * q + k]? = some x) : splice (intsV .i64 (TkI ⟨n, chk l q k⟩)) (0 + 1 + ((k : Nat) : Int).toNat * 2) (Esp x) = intsV .i64 (TkI ⟨n, chk l q (k + 1)⟩) := by
  have e : x = l.getD (4 * q + k) zSp := by rw [List.getD_eq_getElem?_getD, hx]; rfl
  subst e
  match k, hk with
  | 0, _ => rfl
  | 1, _ => rfl
  | 2, _ => rfl
  | 3, _ => rfl
theorem chunks_step {l : List Sp} {q : Nat} (h : 4 * q < l.length) : (chunks l).drop q = chunk l q :: (chunks l).drop (q + 1) := by
  have hq : q < (chunks l).length := by rw [chunks_len]; omega
  rw [List.drop_eq_getElem_cons hq]
  congr 1
  simp [chunks]
theorem chunks_end {l : List Sp} {q : Nat} (h : ¬ 4 * q < l.length) : (chunks l).drop q = [] := List.drop_eq_nil_of_le (by rw [chunks_len]; omega)
theorem stG_some {ts : List Tk} {n k : Nat} {h : List Sp} {r : List (List Sp)} (e : fnd ⟨n, h⟩ ts = some k) : stG ts n (h :: r) = stG ts (k + 1) r := by
  rw [stG, e]
theorem stG_no {ts : List Tk} {n : Nat} {h : List Sp} {r : List (List Sp)} (e : fnd ⟨n, h⟩ ts = none) : stG ts n (h :: r) = stG (ts ++ [⟨n, h⟩]) (ts.length + 1) r := by
  rw [stG, e]
theorem tk4_iff {a b : Tk4} : a = b ↔ a.t = b.t := ⟨fun h => by rw [h], fun h => by cases a; cases b; cases h; rfl⟩
set_option maxHeartbeats 2000000 in
theorem stateK_fn (K : BkE) (s : BkS) (hR : K.Rep s) (hr : ∀ r ∈ K.R, r ≤ K.N) (hRl : K.R.length ≤ 1000000) (htl : s.S.ts.length ≤ 100000000000000000) : HL.Fn Tryd.prog 103 [pt K.b] (fun W => K.Env W (keys ((K.b, .cells [.slice K.ra K.re.length K.rc, .slice K.ta K.w.length K.tc, .slice K.ba K.bl.length K.bc, .slice K.xa K.R.length K.xc, .slice s.fa (zeroF :: s.S.fs).length s.fc, .map (some K.bn), .map (some K.bt), .map (some K.bf), .slice K.sa (K.N + 1) K.sc, .int .i64 (s.S.fuel : Nat), .bool s.d].toArray 103 (0, 0)) :: K.tl s))) ((K.b, .cells [.slice K.ra K.re.length K.rc, .slice K.ta K.w.length K.tc, .slice K.ba K.bl.length K.bc, .slice K.xa K.R.length K.xc, .slice s.fa (zeroF :: s.S.fs).length s.fc, .map (some K.bn), .map (some K.bt), .map (some K.bf), .slice K.sa (K.N + 1) K.sc, .int .i64 (s.S.fuel : Nat), .bool s.d].toArray 103 (0, 0)) :: K.tl s) (fun v S' => ∃ et' ct', v = .int .i64 ((K.sr.code s.S).1 : Nat) ∧ S' = ((K.b, .cells [.slice K.ra K.re.length K.rc, .slice K.ta K.w.length K.tc, .slice K.ba K.bl.length K.bc, .slice K.xa K.R.length K.xc, .slice ({ s with S := (K.sr.code s.S).2, et := et', ct := ct' } : BkS).fa (zeroF :: ({ s with S := (K.sr.code s.S).2, et := et', ct := ct' } : BkS).S.fs).length ({ s with S := (K.sr.code s.S).2, et := et', ct := ct' } : BkS).fc, .map (some K.bn), .map (some K.bt), .map (some K.bf), .slice K.sa (K.N + 1) K.sc, .int .i64 (({ s with S := (K.sr.code s.S).2, et := et', ct := ct' } : BkS).S.fuel : Nat), .bool ({ s with S := (K.sr.code s.S).2, et := et', ct := ct' } : BkS).d].toArray 103 (0, 0)) :: K.tl ({ s with S := (K.sr.code s.S).2, et := et', ct := ct' } : BkS)) ∧ K.Rep ({ s with S := (K.sr.code s.S).2, et := et', ct := ct' } : BkS)) := by
  refine fn_of Tryd.func103 rfl rfl rfl fun w0 hw => ?_
  have hs4 := hw.d4.sl
  have hsp := hR.sp.sl
  have hcl := hR.cl
  rw [hcl] at hsp
  have hpl : (K.sr.proj s.S.cs).length = K.R.length := SrE.proj_len _ _
  refine cR fun _ hK1 => ?_; refine oA (oZ hK1 (cR fun _ hK2 => ?_)); refine oA (oZ hK2 (c_seq fun _ hK3 => ?_)); refine cR fun _ hK4 => ?_; refine oA (oZ hK4 (c_block ?_)); refine c_loop5 (fun (q : Nat) (n : Nat) (ts : List Tk) (et : List (Mx Tk4)) (ct : Nat) => 4 * q ≤ K.R.length + 3 ∧ stG ts n ((chunks (K.sr.proj s.S.cs)).drop q) = stG s.S.ts 0 (chunks (K.sr.proj s.S.cs)) ∧ (∀ t : Tk4, getM et t = (fnd t.t ts).map fun k => .int .i64 ((k + 1 : Nat) : Int)) ∧ et.length = ts.length ∧ ts.length ≤ s.S.ts.length + q) (fun (q : Nat) (n : Nat) (ts : List Tk) (et : List (Mx Tk4)) (ct : Nat) => [(4, .int .i64 ((4 * q : Nat) : Int)), (3, .int .i64 n)]) [(0, _), (2, _)] (fun (q : Nat) (n : Nat) (ts : List Tk) (et : List (Mx Tk4)) (ct : Nat) => (K.b, .cells [.slice K.ra K.re.length K.rc, .slice K.ta K.w.length K.tc, .slice K.ba K.bl.length K.bc, .slice K.xa K.R.length K.xc, .slice s.fa (zeroF :: s.S.fs).length s.fc, .map (some K.bn), .map (some K.bt), .map (some K.bf), .slice K.sa (K.N + 1) K.sc, .int .i64 (s.S.fuel : Nat), .bool s.d].toArray 103 (0, 0)) :: (K.bn, mxO EkF s.en s.cn) :: (K.bt, mxO EkT et ct) :: (K.bf, mxO EkP s.ef s.cf) :: (s.Sf ++ s.Ss)) (fun (q : Nat) (n : Nat) (ts : List Tk) (et : List (Mx Tk4)) (ct : Nat) => K.R.length + 4 - 4 * q) 0 0 s.S.ts s.et s.ct ⟨by omega, rfl, hR.et, hR.el, Nat.le_refl _⟩ sbA sbA hzB ?_
  rintro q n ts et ct ⟨hq4, hst, het, hel, hts⟩
  refine c_seq fun _ hK5 => ?_; refine cR fun _ hK6 => ?_; refine oM (oM ?_); refine oS sN ?_; refine oS sF ?_; refine oS sL ?_; refine oS sC ?_
  by_cases hq : ((4 * q : Nat) : Int) < K.R.length
  ·refine oS lsT (oZ hK6 ?_); refine cTZ hK5 (c_seq fun _ hK7 => ?_); refine c_block (cR fun _ hK8 => ?_); refine oM ?_; refine oS (s_build (cs := [_, _, _, _, _, _, _, _, _]) (vs := [_]) rfl rfl (.cons rfl rfl rfl rfl rfl (.nil))) ?_; refine o_alloc rfl rfl fun b5 => ?_; refine o_stW rfl rfl upA lnA lnA onA ?_; refine oZ hK8 (c_seq fun _ hK9 => ?_); refine cR fun _ hK10 => ?_; refine oM (oZ hK10 (c_block ?_)); refine c_loopB (fun (k : Nat) => k ≤ 4) (fun (k : Nat) => [(20, .int .i64 k)]) [(0, _), (2, _), (3, _), (4, _), (5, _), (9, _), (10, _), (11, _), (12, _), (13, _), (14, _), (15, _), (18, _), (19, _)] (fun (k : Nat) => (b5, .cells (intsV .i64 (TkI ⟨n, chk (K.sr.proj s.S.cs) q k⟩)).toArray 201 (0, 0)) :: (K.b, .cells [.slice K.ra K.re.length K.rc, .slice K.ta K.w.length K.tc, .slice K.ba K.bl.length K.bc, .slice K.xa K.R.length K.xc, .slice s.fa (zeroF :: s.S.fs).length s.fc, .map (some K.bn), .map (some K.bt), .map (some K.bf), .slice K.sa (K.N + 1) K.sc, .int .i64 (s.S.fuel : Nat), .bool s.d].toArray 103 (0, 0)) :: (K.bn, mxO EkF s.en s.cn) :: (K.bt, mxO EkT et ct) :: (K.bf, mxO EkP s.ef s.cf) :: (s.Sf ++ s.Ss)) (fun (k : Nat) => 4 - k) 0 (Nat.zero_le _) sbA sbA hzB ?_
   rintro k hk4
   refine cR fun _ hK11 => ?_
   by_cases hk : (k : Int) < 4
   ·refine oS lsT (oZ hK11 (c_seq fun _ hK12 => ?_)); refine cTZ hK12 (c_seq fun _ hK13 => ?_); refine c_block (cR fun _ hK14 => ?_); refine oM (oA (oZ hK14 (cR fun _ hK15 => ?_))); refine oM (oM ?_); refine oS sD (oM ?_); refine oS sN ?_; refine oS sF ?_; refine oS sL ?_; refine oS sC ?_
    by_cases hkr : ((4 * q : Nat) : Int) + (k : Int) < K.R.length
    ·obtain ⟨r, hrk⟩ : ∃ r, K.R[4 * q + k]? = some r := gE
     have hrN := hr r (List.mem_of_getElem? hrk)
     obtain ⟨x, hcr⟩ : ∃ x, s.S.cs[r]? = some x := gE
     have hPx : (K.sr.proj s.S.cs)[4 * q + k]? = some x := by show (K.R.map _)[4 * q + k]? = _; rw [List.getElem?_map, hrk]; show some (s.S.cs.getD r noS) = _; rw [List.getD_eq_getElem?_getD, hcr]; rfl
     refine oS lsT (oZ hK15 ?_); refine cT ?_; refine c_drawE ((b5, .cells (intsV .i64 (TkI ⟨n, chk (K.sr.proj s.S.cs) q k⟩)).toArray 201 (0, 0)) :: (K.b, .cells [.slice K.ra K.re.length K.rc, .slice K.ta K.w.length K.tc, .slice K.ba K.bl.length K.bc, .slice K.xa K.R.length K.xc, .slice s.fa (zeroF :: s.S.fs).length s.fc, .map (some K.bn), .map (some K.bt), .map (some K.bf), .slice K.sa (K.N + 1) K.sc, .int .i64 (s.S.fuel : Nat), .bool s.d].toArray 103 (0, 0)) :: (K.bn, mxO EkF s.en s.cn) :: (K.bt, mxO EkT et ct) :: (K.bf, mxO EkP s.ef s.cf) :: (s.Sf ++ s.Ss)) (fun i => Nat.beq i 18) ?_; refine eK 0 rfl sM ?_; refine eK 1 rfl sM ?_; refine eK 2 rfl sN ?_; refine eK 3 rfl sF ?_; refine eK 4 rfl sL ?_; refine eK 5 rfl sM ?_; refine eK 6 rfl sN ?_; refine eK 7 rfl sF ?_; refine eK 8 rfl sL ?_; refine eK 9 rfl sM ?_; refine eK 10 rfl sM ?_; refine eK 11 rfl sD ?_; refine eK 12 rfl (s_idx rfl rfl hs4 (by omega)) ?_; refine eK 13 rfl (s_ld rfl ((RdK.old hw.d4 hw.a4).ld (4 * q + k) 0 hrk rfl (by decide) (by omega))) ?_; refine eK 14 rfl (s_idx rfl rfl hsp (by omega)) ?_; refine eK 15 rfl (s_ldB rfl ((hR.sp.rdk hiA).cels hcr) lnA) ?_; refine eO 16 rfl ?_; refine oS sF (oX (eO 17 rfl ?_)); refine oS (s_indexA rfl rfl (by omega)) ?_; refine oX (eO 18 rfl ?_)
     refine o_storeA (l := intsV .i64 (TkI ⟨n, chk (K.sr.proj s.S.cs) q k⟩)) (cs := Esp x) rfl rfl rfl (Enc.one _) upA (by show _ ≤ 9; show 0 + 1 + (k : Int).toNat * 2 + 2 ≤ 9; omega) (fun _ _ => frz0) ?_
     rw [tk_splice (by omega) hPx]
     refine o_nil ?_; refine x_oneL rfl ?_; refine e_done (by kernel_rfl) ?_; refine x_block (xZ hK13 (c_region ?_)); refine oS sD (oM (o_nil ?_)); exact xI (k + 1) (by omega)
    ·refine oS lsF (oZ hK15 ?_); refine cF (c_skip (x_block (xZ hK13 (c_region ?_)))); refine oS sD (oM (o_nil ?_))
     rw [← chk_out (l := (K.sr.proj s.S.cs)) (q := q) (k := k) (by omega)]
     exact xI (k + 1) (by omega)
   ·obtain rfl : k = 4 := by omega
    refine oS lsF (oZ hK11 (c_seq fun _ hK16 => ?_)); refine cF ?_; refine c_exit ?_; refine x_then_exit (x_then_exit (x_block_exit (xZ hK9 (c_seq fun _ hK17 => ?_)))); refine c_quiet (by kernel_rfl) ?_; refine .op rfl (s_move rfl) ?_; refine .op rfl (s_nil rfl) ?_; refine .op rfl (s_field rfl rfl (by decide)) ?_; refine .op rfl (s_ld rfl (.own meA rfl)) ?_; refine .op rfl (s_ldB rfl (RdPK.cels (.own meA)) tk_len) ?_
    by_cases hs : ∃ k0, fnd (⟨n, chk (K.sr.proj s.S.cs) q 4⟩ : Tk) ts = some k0
    ·obtain ⟨k0, hk0⟩ := hs
     refine .op rfl (step_cast (v' := .tuple #[.int .i64 ((k0 + 1 : Nat) : Int), .bool true]) (s_look2k (Ek := EkT) (k := (⟨⟨n, chk (K.sr.proj s.S.cs) q 4⟩, chk_len⟩ : Tk4)) rfl rfl meA) (by rw [het]; show Value.tuple #[((fnd (⟨n, chk (K.sr.proj s.S.cs) q 4⟩ : Tk) ts).map _).getD _, .bool ((fnd (⟨n, chk (K.sr.proj s.S.cs) q 4⟩ : Tk) ts).map _).isSome] = _; rw [hk0]; rfl)) ?_; refine .op rfl (s_move rfl) ?_; refine .op rfl (s_extract rfl rfl) ?_; refine .op rfl (s_extract rfl rfl) ?_; refine .op rfl (s_assign rfl) ?_; refine .op rfl (s_assign rfl) ?_; refine .nil ?_; refine xZ hK17 (c_seq fun _ hK18 => ?_); refine cR fun _ hK19 => ?_; refine oM ?_; refine oS (s_not rfl) ?_; refine oZ hK19 ?_; refine cFZ hK18 (c_region (oM (oA (o_nil (x_block (xZ hK7 (c_region (oM ?_)))))))); refine oS (step_cast (v' := .int .i64 ((4 * (q + 1) : Nat) : Int)) (s_add rfl rfl (by omega)) (congrArg _ (by omega))) ?_; refine oA (o_nil ?_); exact xI (q + 1, k0 + 1, ts, et, ct) ⟨by dsimp only; omega, by dsimp only; rw [← hst, chunks_step (q := q) (by omega), ← chk_4, stG_some hk0], het, hel, by dsimp only; omega⟩
    ·have hk0 : fnd (⟨n, chk (K.sr.proj s.S.cs) q 4⟩ : Tk) ts = none := by cases h : fnd (⟨n, chk (K.sr.proj s.S.cs) q 4⟩ : Tk) ts with | none => rfl | some k0 => exact absurd ⟨k0, h⟩ hs
     have hgn : getM et (⟨⟨n, chk (K.sr.proj s.S.cs) q 4⟩, chk_len⟩ : Tk4) = none := by rw [het]; show (fnd (⟨n, chk (K.sr.proj s.S.cs) q 4⟩ : Tk) ts).map _ = _; rw [hk0]; rfl
     refine .op rfl (step_cast (v' := .tuple #[.int .i64 0, .bool false]) (s_look2k (Ek := EkT) (k := (⟨⟨n, chk (K.sr.proj s.S.cs) q 4⟩, chk_len⟩ : Tk4)) rfl rfl meA) (by rw [hgn]; rfl)) ?_; refine .op rfl (s_move rfl) ?_; refine .op rfl (s_extract rfl rfl) ?_; refine .op rfl (s_extract rfl rfl) ?_; refine .op rfl (s_assign rfl) ?_; refine .op rfl (s_assign rfl) ?_; refine .nil ?_; refine xZ hK17 (c_seq fun _ hK20 => ?_); refine cR fun _ hK21 => ?_; refine oM ?_; refine oS (s_not rfl) ?_; refine oZ hK21 ?_; refine cT (cR fun _ hK22 => ?_); refine oM ?_; refine oS sN ?_; refine oS sF ?_; refine oS sL ?_; refine oS (s_lenmap (Ek := EkT) rfl meA) ?_; refine oS (step_cast (v' := .int .i64 ((ts.length + 1 : Nat) : Int)) (s_add rfl rfl (by omega)) (congrArg _ (by omega))) ?_; refine oA (oZ hK22 ?_); refine c_tail 6 (by kernel_rfl) ?_; refine .op rfl (s_move rfl) ?_; refine .op rfl (s_nil rfl) ?_; refine .op rfl (s_field rfl rfl (by decide)) ?_; refine .op rfl (s_ld rfl (.own meA rfl)) ?_; refine .op rfl (s_ldB rfl (RdPK.cels (.own meA)) tk_len) ?_; refine .op rfl (s_move rfl) ?_; refine .nil ?_; refine o_mset2 (Ek := EkT) (k := (⟨⟨n, chk (K.sr.proj s.S.cs) q 4⟩, chk_len⟩ : Tk4)) rfl rfl rfl pkA fun et' ct' hset' hel' => ?_; refine oZ hK20 (c_region (oM (oA (o_nil (x_block (xZ hK7 (c_region (oM ?_))))))))
     refine oS (step_cast (v' := .int .i64 ((4 * (q + 1) : Nat) : Int)) (s_add rfl rfl (by omega)) (congrArg _ (by omega))) ?_; refine oA (o_nil ?_); exact xI (q + 1, ts.length + 1, ts ++ [⟨n, chk (K.sr.proj s.S.cs) q 4⟩], et', ct') ⟨by dsimp only; omega, by dsimp only; rw [← hst, chunks_step (q := q) (by omega), ← chk_4, stG_no hk0], fun t => by dsimp only; rw [hset' t, fnd_snoc hk0, het t]; simp only [tk4_iff]; split <;> rfl, by dsimp only; rw [hel', hgn]; simp [hel], by dsimp only; rw [List.length_append, List.length_singleton]; omega⟩
  ·have hdn := chunks_end (l := (K.sr.proj s.S.cs)) (q := q) (by omega)
   rw [hdn] at hst
   refine oS lsF (oZ hK6 ?_); refine cF ?_; refine c_exit ?_; refine x_then_exit (x_then_exit (x_block_exit (xZ hK3 (cR fun _ hK23 => ?_)))); refine oM (oA (oZ hK23 (c_ret ?_))); refine ?_; refine x_sub (Sub.refl _) (H' := ((K.b, .cells [.slice K.ra K.re.length K.rc, .slice K.ta K.w.length K.tc, .slice K.ba K.bl.length K.bc, .slice K.xa K.R.length K.xc, .slice ({ s with S := (K.sr.code s.S).2, et := et, ct := ct } : BkS).fa (zeroF :: ({ s with S := (K.sr.code s.S).2, et := et, ct := ct } : BkS).S.fs).length ({ s with S := (K.sr.code s.S).2, et := et, ct := ct } : BkS).fc, .map (some K.bn), .map (some K.bt), .map (some K.bf), .slice K.sa (K.N + 1) K.sc, .int .i64 (({ s with S := (K.sr.code s.S).2, et := et, ct := ct } : BkS).S.fuel : Nat), .bool ({ s with S := (K.sr.code s.S).2, et := et, ct := ct } : BkS).d].toArray 103 (0, 0)) :: K.tl ({ s with S := (K.sr.code s.S).2, et := et, ct := ct } : BkS))) hzB ?_
   exact xR rfl rfl (⟨et, ct, by show Value.int .i64 (n : Int) = .int .i64 ((stG s.S.ts 0 (chunks (K.sr.proj s.S.cs))).1 : Nat); rw [← hst]; rfl, rfl, ⟨hR.fr, hR.sp, hR.cl, hR.en, fun t => by show getM et t = (fnd t.t (stG s.S.ts 0 (chunks (K.sr.proj s.S.cs))).2).map _; rw [← hst]; exact het t, by show et.length = (stG s.S.ts 0 (chunks (K.sr.proj s.S.cs))).2.length; rw [← hst]; exact hel, hR.ef⟩⟩)
end Go.Proofs.YtloepfcndglmmaaDoor
namespace Go.HL
open Go
def midA (a : Option Addr) (c lo k : Nat) : Option Addr := if c = lo then a else a.map (·.add (lo * k))
section
variable {P : Program} {κ : Cx} {L : HL.Loc} {H : Hp} {ty t : TypeId} {x y z : Operand}
theorem s_slice_mid {e s by' n c : Nat} {a : Option Addr} {kl kh : IntKind} {l h : Int} [TU P t (.slice e)] [TI P e s by'] (hx : ev L x = some (.slice a n c)) (hy : ev L y = some (.int kl l)) (hz : ev L z = some (.int kh h)) (hb : 0 ≤ l ∧ l ≤ h ∧ h ≤ c) :
    Step P κ (.slice t x (some y) (some z) none) ty L H (.slice (midA a c l.toNat s) (h.toNat - l.toNat) (c - l.toNat)) :=
  ⟨fun ρ w d pos af g hρ _ => by
    have b1 : 0 ≤ h ∧ h ≤ c := by omega
    have b2 : 0 ≤ l ∧ l ≤ (h.toNat : Int) := by omega
    have b3 : 0 ≤ l ∧ l ≤ max h 0 := by omega
    have e2 : (Instr.slice t (.slice a n c) (some (.int kl l)) (some (.int kh h)) none).run P w = .ok (.slice (midA a c l.toNat s) (h.toNat - l.toNat) (c - l.toNat)) w := by
      simp [Instr.slice, run_u, Instr.sliceBounds, Instr.sliceBound, asIntOf, b1, b2, b3, run_size, midA]
    simp [execOp, hρ _ _ hx, hρ _ _ hy, hρ _ _ hz, Instr.sliceAt, run_u, e2]⟩
end
theorem flat_mid {α : Type} (E : α → List Value) {k : Nat} [h : Enc E k] (xs : List α) (lo m : Nat) {j : Nat} {u : Value} (hu : (flat E ((xs.drop lo).take m))[j]? = some u) : (flat E xs)[lo * k + j]? = some u := by
  have e : xs = xs.take lo ++ ((xs.drop lo).take m ++ (xs.drop lo).drop m) := by rw [List.take_append_drop, List.take_append_drop]
  have hj : j < (flat E ((xs.drop lo).take m)).length := by
    rcases Nat.lt_or_ge j (flat E ((xs.drop lo).take m)).length with h' | h'
    · exact h'
    · rw [List.getElem?_eq_none h'] at hu; cases hu
  rcases Nat.lt_or_ge lo xs.length with hl | hl
  · rw [e, flat_append, flat_append]
    have hlen : (flat E (xs.take lo)).length = lo * k := by rw [flat_len, List.length_take, Nat.min_eq_left (by omega)]
    rw [List.getElem?_append_right (by omega), hlen, Nat.add_sub_cancel_left, List.getElem?_append_left hj]
    exact hu
  · rw [List.drop_of_length_le hl] at hj; simp [flat] at hj
theorem Rd.mid {α : Type} {E : α → List Value} {k : Nat} [he : Enc E k] {w : World} {a : Option Addr} {n c : Nat} {xs : List α} (h : Rd E w (.slice a n c) xs) (lo hi : Nat) (h1 : lo ≤ hi) (h2 : hi ≤ xs.length) :
    Rd E w (.slice (midA a c lo k) ((xs.drop lo).take (hi - lo)).length (c - lo)) ((xs.drop lo).take (hi - lo)) := by
  have hs := h.sl
  obtain ⟨⟨a', c', hv, hn, h0, hsp⟩, hle⟩ := hs
  simp only [Value.slice.injEq] at hv
  obtain ⟨rfl, rfl, rfl⟩ := hv
  have hlen : ((xs.drop lo).take (hi - lo)).length = hi - lo := by simp; omega
  have hA : ∀ A, midA a c lo k = some A → hi - lo ≠ 0 → A.spot = none := by
    intro A hA hz
    unfold midA at hA
    rw [if_neg (by omega)] at hA
    cases a with
    | none => cases hA
    | some B =>
      have := hsp B rfl (by omega)
      simp only [Option.map_some, Option.some.injEq] at hA
      subst hA
      unfold Addr.add
      split
      · exact this
      · rfl
  refine ⟨⟨⟨_, _, rfl, by rw [hlen]; omega, fun hm => ?_, fun A hA' hz => hA A hA' (by rw [hlen] at hz; exact hz)⟩, by rw [hlen]; omega⟩, fun j u hu => ?_⟩
  · unfold midA at hm
    split at hm
    · have := h0 hm; omega
    · cases a with
      | none => have := h0 rfl; omega
      | some B => cases hm
  · have hne : hi - lo ≠ 0 := by
      intro e
      rw [e, List.take_zero] at hu
      simp [flat] at hu
    have hg := h.get (lo * k + j) u (flat_mid E xs lo (hi - lo) hu)
    have e : ea (.slice (midA a c lo k) ((xs.drop lo).take (hi - lo)).length (c - lo)) j = ea (.slice a xs.length c) (lo * k + j) := by
      unfold midA
      rw [if_neg (by omega)]
      cases a with
      | none => have := h0 rfl; omega
      | some B =>
        simp only [ea, sblk, soff, Option.map_some, oblk, ooff]
        unfold Addr.add
        split
        · rename_i hz; rw [hz, Nat.zero_add]
        · simp only [Nat.add_assoc]
    rw [e]
    exact hg
end Go.HL
namespace Go.HL
open Go
def OldL (L : List (Sl UInt8)) (S : Hp) (w : World) : Prop := ∀ p ∈ L, Rd Eb w p.v p.xs ∧ Apart (keys S) p.v
section
variable {P : Program} {κ : Cx} {Q : Pst} {L L' : Loc} {H H' : Hp} {ops : Array Oper} {rest : List Oper} {ty : TypeId} {d : Nat} {pos : String} {af : Array Edge} {v : Value}
structure ItV (P : Program) (gf : FuncId) (us lb : List Value) {α : Type} (EV : α → List Value → Hp → Prop) (xs : List α) (pre : Hp → World → Prop) (S : Hp) (IS : Hp → Prop) : Prop where
  enters : Enters P gf
  out : ∀ (l : Nat) (HS HX : List α → Hp → Prop), (∀ pre x vs Sx B, HS pre B → pre ++ [x] <+: xs → EV x vs Sx → Yd P l vs (B ++ Sx) (fun v B' => (v = .bool true ∧ HS (pre ++ [x]) B') ∨ (v = .bool false ∧ HX (pre ++ [x]) B'))) →
    ∀ B, HS [] B → Fn P gf (us ++ [.func (.yield l) #[] #[]] ++ lb) (pre (S ++ B)) (S ++ B) (fun _ S' => ∃ S1 B', S' = S1 ++ B' ∧ IS S1 ∧ (HS xs B' ∨ ∃ p, p <+: xs ∧ HX p B'))
theorem s_slice_lo {t : TypeId} {x y : Operand} {e s by' n c : Nat} {a : Option Addr} {kl : IntKind} {l : Int} [TU P t (.slice e)] [TI P e s by'] (hx : ev L x = some (.slice a n c)) (hy : ev L y = some (.int kl l)) (hb : 0 ≤ l ∧ l ≤ n ∧ n ≤ c) :
    Step P κ (.slice t x (some y) none none) ty L H (.slice (midA a c l.toNat s) (n - l.toNat) (c - l.toNat)) :=
  ⟨fun ρ w d pos af g hρ _ => by
    have b1 : 0 ≤ l ∧ l ≤ (n : Int) := by omega
    have b3 : 0 ≤ l ∧ l ≤ max (n : Int) 0 := by omega
    have b4 : (n : Int) ≤ c := by omega
    have e2 : (Instr.slice t (.slice a n c) (some (.int kl l)) none none).run P w = .ok (.slice (midA a c l.toNat s) (n - l.toNat) (c - l.toNat)) w := by
      simp [Instr.slice, run_u, Instr.sliceBounds, Instr.sliceBound, asIntOf, b1, b3, b4, run_size, midA]
    simp [execOp, hρ _ _ hx, hρ _ _ hy, Instr.sliceAt, run_u, e2]⟩
theorem RdK.mid {α : Type} {E : α → List Value} {k : Nat} [he : Enc E k] {a : Option Addr} {n c : Nat} {xs : List α} (h : RdK E κ H (.slice a n c) xs) (lo hi : Nat) (h1 : lo ≤ hi) (h2 : hi ≤ xs.length) :
    RdK E κ H (.slice (midA a c lo k) ((xs.drop lo).take (hi - lo)).length (c - lo)) ((xs.drop lo).take (hi - lo)) := ⟨fun w st => (h.out w st).mid lo hi h1 h2⟩
end
end Go.HL
namespace Go.HL
open Go
theorem IsSl.mid {a : Option Addr} {n c k : Nat} (h : IsSl (.slice a n c) n) (lo m : Nat) (h1 : lo + m ≤ n) : IsSl (.slice (midA a c lo k) m (c - lo)) m := by
  obtain ⟨⟨a', c', hv, hn, h0, hsp⟩, hle⟩ := h
  simp only [Value.slice.injEq, true_and] at hv
  obtain ⟨rfl, rfl⟩ := hv
  refine ⟨⟨_, _, rfl, by omega, fun hm => ?_, fun A hA hz => ?_⟩, by omega⟩
  · unfold midA at hm
    split at hm
    · have := h0 hm; omega
    · cases a with
      | none => have := h0 rfl; omega
      | some B => cases hm
  · unfold midA at hA
    rw [if_neg (by omega)] at hA
    cases a with
    | none => cases hA
    | some B =>
      have := hsp B rfl (by omega)
      simp only [Option.map_some, Option.some.injEq] at hA
      subst hA
      unfold Addr.add
      split
      · exact this
      · rfl
theorem RdS.tail {α : Type} {E : α → List Value} {k : Nat} [he : Enc E k] {a : Option Addr} {c : Nat} {x : α} {l : List α} {S : Hp} (h : RdS E (.slice a (x :: l).length c) (x :: l) S) : RdS E (.slice (midA a c 1 k) l.length (c - 1)) l S :=
  ⟨fun w hw => by
    have h2 := (h.out w hw).mid 1 (x :: l).length (by simp) (Nat.le_refl _)
    have e : ((x :: l).drop 1).take ((x :: l).length - 1) = l := by simp
    rw [e] at h2
    exact h2⟩
end Go.HL
namespace Go.HL.Kl.Mc
open Go Go.HL Go.HL.Kl AskE
theorem emW_7 {x : Nd} {l : List Nd} {cs : List Sp} (h : x.op = 7) : emW (x :: l) cs = cs.getD x.n.toNat noS :: emW l (cs.set x.n.toNat noS) := by rw [emW, if_pos h]
theorem emW_n {x : Nd} {l : List Nd} {cs : List Sp} (h : ¬ x.op = 7) : emW (x :: l) cs = emW l cs := by rw [emW, if_neg h]
theorem fgt_7 {x : Nd} {l : List Nd} {cs : List Sp} (h : x.op = 7) : fgt (x :: l) cs = fgt l (cs.set x.n.toNat noS) := by
  show fgt l (fg1 cs x) = _
  rw [fg1, if_pos h]
theorem fgt_n {x : Nd} {l : List Nd} {cs : List Sp} (h : ¬ x.op = 7) : fgt (x :: l) cs = fgt l cs := by
  show fgt l (fg1 cs x) = _
  rw [fg1, if_neg h]
theorem rst_7 {x : Nd} {l : List Nd} {y : Sp} {was cs : List Sp} (h : x.op = 7) : rst (x :: l) (y :: was) cs = rst l was (cs.set x.n.toNat y) := by rw [rst, if_pos h]; rfl
theorem rst_n {x : Nd} {l : List Nd} {was cs : List Sp} (h : ¬ x.op = 7) : rst (x :: l) was cs = rst l was cs := by rw [rst, if_neg h]
def nG7 (l : List Nd) : Nat := l.countP fun x => decide (x.op = 7)
theorem nG7_7 {x : Nd} {l : List Nd} (h : x.op = 7) : nG7 (x :: l) = nG7 l + 1 := by unfold nG7; rw [List.countP_cons, if_pos (by simp [h])]
theorem nG7_n {x : Nd} {l : List Nd} (h : ¬ x.op = 7) : nG7 (x :: l) = nG7 l := by unfold nG7; rw [List.countP_cons, if_neg (by simp [h])]; rfl
theorem emW_len : ∀ (l : List Nd) (cs : List Sp), (emW l cs).length = nG7 l
  | [], _ => rfl
  | x :: l, cs => by
    by_cases h : x.op = 7
    · rw [emW_7 h, nG7_7 h, List.length_cons, emW_len]
    · rw [emW_n h, nG7_n h, emW_len]
theorem SrE.inn_len {K : SrE} {a b : Nat} (h : b ≤ K.re.length) : (K.inn a b).length = b - a := by unfold SrE.inn; rw [List.length_take, List.length_drop]; omega
theorem SrE.inn_mem {K : SrE} {a b : Nat} {x : Nd} (h : x ∈ K.inn a b) : x ∈ K.re := List.mem_of_mem_drop (List.mem_of_mem_take h)
theorem drop_get {α : Type} {l : List α} {k : Nat} {x : α} (h : l[k]? = some x) : l.drop k = x :: l.drop (k + 1) := by
  have hk := (List.getElem?_eq_some_iff.1 h).1
  rw [List.drop_eq_getElem_cons hk]
  congr 1
  rw [List.getElem?_eq_getElem hk] at h
  exact Option.some.inj h
end Go.HL.Kl.Mc
namespace Go.Proofs.YtloepfcndglmmaaDoor
open Go Go.HL Go.Proofs Go.HL.Kl Go.HL.Kl.Mc Go.HL.Kl.Mc.AskE
set_option maxHeartbeats 2000000 in
theorem emptiedB_fn (K : BkE) (s : BkS) (hrl : K.re.length ≤ 1000000) (hO : OwnS Esp 2 45 (.slice K.sa (K.N + 1) K.sc) s.S.cs s.Ss) (hcl : s.S.cs.length = K.N + 1) (hN : K.N ≤ 1000000) (hg7 : ∀ x ∈ K.re, x.op = 7 → 0 ≤ x.n ∧ x.n ≤ K.N) (a b : Nat) (hab : a ≤ b) (hb : b ≤ K.re.length) : HL.Fn Tryd.prog 87 [pt K.b, .int .i64 a, .int .i64 b] (fun W => K.Env W (keys ((K.b, .cells [.slice K.ra K.re.length K.rc, .slice K.ta K.w.length K.tc, .slice K.ba K.bl.length K.bc, .slice K.xa K.R.length K.xc, .slice s.fa (zeroF :: s.S.fs).length s.fc, .map (some K.bn), .map (some K.bt), .map (some K.bf), .slice K.sa (K.N + 1) K.sc, .int .i64 (s.S.fuel : Nat), .bool s.d].toArray 103 (0, 0)) :: s.Ss))) ((K.b, .cells [.slice K.ra K.re.length K.rc, .slice K.ta K.w.length K.tc, .slice K.ba K.bl.length K.bc, .slice K.xa K.R.length K.xc, .slice s.fa (zeroF :: s.S.fs).length s.fc, .map (some K.bn), .map (some K.bt), .map (some K.bf), .slice K.sa (K.N + 1) K.sc, .int .i64 (s.S.fuel : Nat), .bool s.d].toArray 103 (0, 0)) :: s.Ss) (fun v S' => ∃ la lc Sl Ss', v = .slice la (emW (K.sr.inn a b) s.S.cs).length lc ∧ S' = Sl ++ ((K.b, .cells [.slice K.ra K.re.length K.rc, .slice K.ta K.w.length K.tc, .slice K.ba K.bl.length K.bc, .slice K.xa K.R.length K.xc, .slice s.fa (zeroF :: s.S.fs).length s.fc, .map (some K.bn), .map (some K.bt), .map (some K.bf), .slice K.sa (K.N + 1) K.sc, .int .i64 (s.S.fuel : Nat), .bool s.d].toArray 103 (0, 0)) :: Ss') ∧ OwnS Esp 2 45 (.slice la (emW (K.sr.inn a b) s.S.cs).length lc) (emW (K.sr.inn a b) s.S.cs) Sl ∧ OwnS Esp 2 45 (.slice K.sa (K.N + 1) K.sc) (fgt (K.sr.inn a b) s.S.cs) Ss') := by
  refine fn_of Tryd.func87 rfl rfl rfl fun w0 hw => ?_
  have hsl := hw.d1.sl
  have hrc := hsl.cap
  have hsp := hO.sl
  rw [hcl] at hsp
  have hil : (K.sr.inn a b).length = b - a := K.sr.inn_len hb
  have hisl : IsSl (.slice (midA K.ra K.rc a 9) (K.sr.inn a b).length (K.rc - a)) (K.sr.inn a b).length := by rw [hil]; exact hsl.mid a (b - a) (by omega)
  have hrle := hsl.le
  refine cR fun _ hK1 => ?_; refine oA (oZ hK1 (cR fun _ hK2 => ?_)); refine oA (oZ hK2 (c_seq fun _ hK3 => ?_)); refine cR fun _ hK4 => ?_; refine oM ?_; refine oS sN ?_; refine oS sF ?_; refine oS sL (oM (oM ?_)); refine oS (step_cast (v' := .slice (midA K.ra K.rc a 9) (K.sr.inn a b).length (K.rc - a)) (s_slice_mid rfl rfl rfl (by omega)) (by rw [hil]; simp only [Int.toNat_natCast])) ?_; refine oS sC (oM (oZ hK4 (c_block ?_))); refine c_loop7 (fun (k : Nat) (la : Option Addr) (lc : Nat) (l : List Sp) (SL : Hp) (cs : List Sp) (SS : Hp) => k ≤ (K.sr.inn a b).length ∧ OwnS Esp 2 45 (.slice la l.length lc) l SL ∧ OwnS Esp 2 45 (.slice K.sa (K.N + 1) K.sc) cs SS ∧ cs.length = K.N + 1 ∧ l ++ emW ((K.sr.inn a b).drop k) cs = emW (K.sr.inn a b) s.S.cs ∧ fgt ((K.sr.inn a b).drop k) cs = fgt (K.sr.inn a b) s.S.cs ∧ l.length ≤ k) (fun (k : Nat) (la : Option Addr) (lc : Nat) (l : List Sp) (SL : Hp) (cs : List Sp) (SS : Hp) => [(7, .slice la l.length lc), (18, .int .i64 k)]) [(0, _), (6, _), (16, _), (17, _)] (fun (k : Nat) (la : Option Addr) (lc : Nat) (l : List Sp) (SL : Hp) (cs : List Sp) (SS : Hp) => SL ++ ((K.b, .cells [.slice K.ra K.re.length K.rc, .slice K.ta K.w.length K.tc, .slice K.ba K.bl.length K.bc, .slice K.xa K.R.length K.xc, .slice s.fa (zeroF :: s.S.fs).length s.fc, .map (some K.bn), .map (some K.bt), .map (some K.bf), .slice K.sa (K.N + 1) K.sc, .int .i64 (s.S.fuel : Nat), .bool s.d].toArray 103 (0, 0)) :: SS)) (fun (k : Nat) (la : Option Addr) (lc : Nat) (l : List Sp) (SL : Hp) (cs : List Sp) (SS : Hp) => (K.sr.inn a b).length - k) 0 none 0 [] [] s.S.cs s.Ss ⟨Nat.zero_le _, .nil, hO, hcl, rfl, rfl, Nat.le_refl _⟩ sbA sbA hzB ?_
  rintro k la lc l SL cs SS ⟨hkl, hL, hC, hcl2, hem, hfg, hlk⟩
  have hsp2 := hC.sl
  rw [hcl2] at hsp2
  refine cR fun _ hK5 => ?_
  by_cases hk : (k : Int) < (K.sr.inn a b).length
  ·obtain ⟨x, hx⟩ : ∃ x, (K.sr.inn a b)[k]? = some x := gE
   have hxm := K.sr.inn_mem (List.mem_of_getElem? hx)
   have hdk := drop_get hx
   refine oS lsT (oZ hK5 (c_seq fun _ hK6 => ?_)); refine cTZ hK6 (c_seq fun _ hK7 => ?_); refine c_block (cR fun _ hK8 => ?_); refine oS (s_idx rfl rfl hisl (by omega)) ?_; refine oS (s_ldB rfl (((RdK.old hw.d1 hw.a1).mid a b hab hb).lds k hx rfl) (by rfl)) ?_; refine o_alloc (l := En zN) (by rw [En_zero]; rfl) rfl fun b9 => ?_; refine o_stW rfl rfl upA lnA lnA onA ?_; refine oZ hK8 (cR fun _ hK9 => ?_); refine oS sF ?_; refine oS sL ?_
   by_cases h7 : x.op = 7
   ·obtain ⟨hn1, hn2⟩ := hg7 x hxm h7
    obtain ⟨y, hy⟩ : ∃ y, cs[x.n.toNat]? = some y := gE
    refine oS (eqT (h := h7)) ?_; refine oZ hK9 ?_; refine cT (c_seq fun _ hK10 => ?_); refine c_drawE ((b9, .cells (En x).toArray 80 (0, 0)) :: ((K.b, .cells [.slice K.ra K.re.length K.rc, .slice K.ta K.w.length K.tc, .slice K.ba K.bl.length K.bc, .slice K.xa K.R.length K.xc, .slice s.fa (zeroF :: s.S.fs).length s.fc, .map (some K.bn), .map (some K.bt), .map (some K.bf), .slice K.sa (K.N + 1) K.sc, .int .i64 (s.S.fuel : Nat), .bool s.d].toArray 103 (0, 0)) :: SS)) (fun i => false) ?_; refine eP 0 rfl sM ?_; refine eP 1 rfl sM ?_; refine eP 2 rfl sN ?_; refine eP 3 rfl sF ?_; refine eK 4 rfl sL ?_; refine eP 5 rfl sF ?_; refine eK 6 rfl sL ?_; refine eK 7 rfl (s_idx rfl rfl hsp2 (by omega)) ?_; refine eK 8 rfl (s_ldB rfl ((hC.rdk hiA).cels hy) lnA) ?_; refine eO 9 rfl ?_; refine o_bs (E := Esp) (xs := [y]) (vs := [_]) rfl rfl rfl rfl rfl (by decide) (by decide) fun b34 S34 hS34 => ?_; refine oX (eO 10 rfl ?_); refine o_app hL (hS34.rdk hiA) rfl rfl rfl rfl (by simp only [List.length_singleton]; omega) (by simp only [List.length_singleton]; omega) rfl pkA fun a35 c35 S35 hS35 => ?_; refine oX (eO 11 rfl (oA (oX (eZ hK10 ?_)))); refine c_drawE ((b9, .cells (En x).toArray 80 (0, 0)) :: ((K.b, .cells [.slice K.ra K.re.length K.rc, .slice K.ta K.w.length K.tc, .slice K.ba K.bl.length K.bc, .slice K.xa K.R.length K.xc, .slice s.fa (zeroF :: s.S.fs).length s.fc, .map (some K.bn), .map (some K.bt), .map (some K.bf), .slice K.sa (K.N + 1) K.sc, .int .i64 (s.S.fuel : Nat), .bool s.d].toArray 103 (0, 0)) :: SS)) (fun i => Nat.beq i 8) ?_
    refine eP 0 rfl sM ?_; refine eP 1 rfl sN ?_; refine eP 2 rfl sF ?_; refine eK 3 rfl sL ?_; refine eP 4 rfl sF ?_; refine eK 5 rfl sL ?_; refine eK 6 rfl (s_ldB (cs := Esp noS) rfl ((RdPK.old hw.g hw.ga).cels) rfl) ?_; refine eO 7 rfl ?_; refine oS (s_idx rfl rfl hsp2 (by omega)) ?_; refine oX (eO 8 rfl ?_); refine o_stSE x.n.toNat noS hC pkA rfl rfl (by omega) (by rfl) fun S' hS' => ?_; refine o_nil ?_; refine x_oneL rfl ?_; refine e_done (by kernel_rfl) ?_; refine x_block (xZ hK7 (c_region ?_)); refine oS sD (oM (o_nil ?_)); exact xI (k + 1, a35, c35, l ++ [y], S35, cs.set x.n.toNat noS, S') ⟨by dsimp only; omega, hS35, hS', by dsimp only; rw [List.length_set]; exact hcl2, by dsimp only; rw [← hem, hdk, emW_7 h7, List.getD_eq_getElem?_getD, hy, List.append_assoc]; rfl, by dsimp only; rw [← hfg, hdk, fgt_7 h7], by dsimp only; rw [List.length_append, List.length_singleton]; omega⟩
   ·refine oS (eqF (h := h7)) ?_; refine oZ hK9 ?_; refine cF (c_skip (x_block (xZ hK7 (c_region ?_)))); refine oS sD (oM (o_nil ?_)); exact xI (k + 1, la, lc, l, SL, cs, SS) ⟨by dsimp only; omega, hL, hC, hcl2, by dsimp only; rw [← hem, hdk, emW_n h7], by dsimp only; rw [← hfg, hdk, fgt_n h7], by dsimp only; omega⟩
  ·obtain rfl : k = (K.sr.inn a b).length := by omega
   refine oS lsF (oZ hK5 (c_seq fun _ hK11 => ?_)); refine cF ?_; refine c_exit ?_; refine x_then_exit (x_then_exit (x_block_exit (xZ hK3 (cR fun _ hK12 => ?_)))); refine oM (oA (oZ hK12 (c_ret ?_))); refine ?_; refine x_sub (Sub.refl _) (H' := SL ++ ((K.b, .cells [.slice K.ra K.re.length K.rc, .slice K.ta K.w.length K.tc, .slice K.ba K.bl.length K.bc, .slice K.xa K.R.length K.xc, .slice s.fa (zeroF :: s.S.fs).length s.fc, .map (some K.bn), .map (some K.bt), .map (some K.bf), .slice K.sa (K.N + 1) K.sc, .int .i64 (s.S.fuel : Nat), .bool s.d].toArray 103 (0, 0)) :: SS)) hzB ?_
   have hdn : (K.sr.inn a b).drop (K.sr.inn a b).length = [] := List.drop_length
   rw [hdn] at hem hfg
   have hem : l = emW (K.sr.inn a b) s.S.cs := by rw [← hem]; exact (List.append_nil _).symm
   have hfg : cs = fgt (K.sr.inn a b) s.S.cs := hfg
   subst hem; subst hfg
   exact xR rfl rfl (⟨la, lc, SL, SS, rfl, rfl, hL, hC⟩)
set_option maxHeartbeats 2000000 in
theorem restoreB_fn (K : BkE) (s : BkS) (hrl : K.re.length ≤ 1000000) (hO : OwnS Esp 2 45 (.slice K.sa (K.N + 1) K.sc) s.S.cs s.Ss) (hcl : s.S.cs.length = K.N + 1) (hN : K.N ≤ 1000000) (hg7 : ∀ x ∈ K.re, x.op = 7 → 0 ≤ x.n ∧ x.n ≤ K.N) (a b : Nat) (hab : a ≤ b) (hb : b ≤ K.re.length) (la : Option Addr) (lc : Nat) (l : List Sp) (SL : Hp) (hL : OwnS Esp 2 45 (.slice la l.length lc) l SL) (hl7 : l.length = nG7 (K.sr.inn a b)) : HL.Fn Tryd.prog 88 [pt K.b, .int .i64 a, .int .i64 b, .slice la l.length lc] (fun W => K.Env W (keys (SL ++ ((K.b, .cells [.slice K.ra K.re.length K.rc, .slice K.ta K.w.length K.tc, .slice K.ba K.bl.length K.bc, .slice K.xa K.R.length K.xc, .slice s.fa (zeroF :: s.S.fs).length s.fc, .map (some K.bn), .map (some K.bt), .map (some K.bf), .slice K.sa (K.N + 1) K.sc, .int .i64 (s.S.fuel : Nat), .bool s.d].toArray 103 (0, 0)) :: s.Ss)))) (SL ++ ((K.b, .cells [.slice K.ra K.re.length K.rc, .slice K.ta K.w.length K.tc, .slice K.ba K.bl.length K.bc, .slice K.xa K.R.length K.xc, .slice s.fa (zeroF :: s.S.fs).length s.fc, .map (some K.bn), .map (some K.bt), .map (some K.bf), .slice K.sa (K.N + 1) K.sc, .int .i64 (s.S.fuel : Nat), .bool s.d].toArray 103 (0, 0)) :: s.Ss)) (fun v S' => ∃ Ss', S' = ((K.b, .cells [.slice K.ra K.re.length K.rc, .slice K.ta K.w.length K.tc, .slice K.ba K.bl.length K.bc, .slice K.xa K.R.length K.xc, .slice s.fa (zeroF :: s.S.fs).length s.fc, .map (some K.bn), .map (some K.bt), .map (some K.bf), .slice K.sa (K.N + 1) K.sc, .int .i64 (s.S.fuel : Nat), .bool s.d].toArray 103 (0, 0)) :: Ss') ∧ OwnS Esp 2 45 (.slice K.sa (K.N + 1) K.sc) (rst (K.sr.inn a b) l s.S.cs) Ss') := by
  refine fn_of Tryd.func88 rfl rfl rfl fun w0 hw => ?_
  have hsl := hw.d1.sl
  have hrc := hsl.cap
  have hsp := hO.sl
  rw [hcl] at hsp
  have hil : (K.sr.inn a b).length = b - a := K.sr.inn_len hb
  have hisl : IsSl (.slice (midA K.ra K.rc a 9) (K.sr.inn a b).length (K.rc - a)) (K.sr.inn a b).length := by rw [hil]; exact hsl.mid a (b - a) (by omega)
  have hrle := hsl.le
  have hls := hL.sl
  refine cR fun _ hK1 => ?_; refine oM ?_; refine oS sN ?_; refine oS sF ?_; refine oS sL (oM (oM ?_)); refine oS (step_cast (v' := .slice (midA K.ra K.rc a 9) (K.sr.inn a b).length (K.rc - a)) (s_slice_mid rfl rfl rfl (by omega)) (by rw [hil]; simp only [Int.toNat_natCast])) ?_; refine oS sC (oM (oZ hK1 (c_block ?_))); refine c_loop6 (fun (k : Nat) (wa : Option Addr) (wc : Nat) (m : List Sp) (cs : List Sp) (SS : Hp) => k ≤ (K.sr.inn a b).length ∧ RdS Esp (.slice wa m.length wc) m SL ∧ IsSl (.slice wa m.length wc) m.length ∧ m.length = nG7 ((K.sr.inn a b).drop k) ∧ OwnS Esp 2 45 (.slice K.sa (K.N + 1) K.sc) cs SS ∧ cs.length = K.N + 1 ∧ rst ((K.sr.inn a b).drop k) m cs = rst (K.sr.inn a b) l s.S.cs) (fun (k : Nat) (wa : Option Addr) (wc : Nat) (m : List Sp) (cs : List Sp) (SS : Hp) => [(3, .slice wa m.length wc), (18, .int .i64 k)]) [(0, _), (16, _), (17, _)] (fun (k : Nat) (wa : Option Addr) (wc : Nat) (m : List Sp) (cs : List Sp) (SS : Hp) => SL ++ ((K.b, .cells [.slice K.ra K.re.length K.rc, .slice K.ta K.w.length K.tc, .slice K.ba K.bl.length K.bc, .slice K.xa K.R.length K.xc, .slice s.fa (zeroF :: s.S.fs).length s.fc, .map (some K.bn), .map (some K.bt), .map (some K.bf), .slice K.sa (K.N + 1) K.sc, .int .i64 (s.S.fuel : Nat), .bool s.d].toArray 103 (0, 0)) :: SS)) (fun (k : Nat) (wa : Option Addr) (wc : Nat) (m : List Sp) (cs : List Sp) (SS : Hp) => (K.sr.inn a b).length - k) 0 la lc l s.S.cs s.Ss ⟨Nat.zero_le _, hL.rds, hls, hl7, hO, hcl, rfl⟩ sbA sbA hzB ?_
  rintro k wa wc m cs SS ⟨hkl, hM, hms, hmg, hC, hcl2, hrs⟩
  have hsp2 := hC.sl
  rw [hcl2] at hsp2
  refine cR fun _ hK2 => ?_
  by_cases hk : (k : Int) < (K.sr.inn a b).length
  ·obtain ⟨x, hx⟩ : ∃ x, (K.sr.inn a b)[k]? = some x := gE
   have hxm := K.sr.inn_mem (List.mem_of_getElem? hx)
   have hdk := drop_get hx
   refine oS lsT (oZ hK2 (c_seq fun _ hK3 => ?_)); refine cTZ hK3 (c_seq fun _ hK4 => ?_); refine c_block (cR fun _ hK5 => ?_); refine oS (s_idx rfl rfl hisl (by omega)) ?_; refine oS (s_ldB rfl (((RdK.old hw.d1 hw.a1).mid a b hab hb).lds k hx rfl) (by rfl)) ?_; refine o_alloc (l := En zN) (by rw [En_zero]; rfl) rfl fun b9 => ?_; refine o_stW rfl rfl upA lnA lnA onA ?_; refine oZ hK5 (cR fun _ hK6 => ?_); refine oS sF ?_; refine oS sL ?_
   by_cases h7 : x.op = 7
   ·obtain ⟨hn1, hn2⟩ := hg7 x hxm h7
    obtain ⟨y, m, rfl⟩ : ∃ y m2, m = y :: m2 := by cases m with | nil => rw [hdk, nG7_7 h7] at hmg; simp at hmg | cons y m2 => exact ⟨y, m2, rfl⟩
    refine oS (eqT (h := h7)) ?_; refine oZ hK6 ?_; refine cT (c_seq fun _ hK7 => ?_); refine c_drawE ((b9, .cells (En x).toArray 80 (0, 0)) :: (SL ++ ((K.b, .cells [.slice K.ra K.re.length K.rc, .slice K.ta K.w.length K.tc, .slice K.ba K.bl.length K.bc, .slice K.xa K.R.length K.xc, .slice s.fa (zeroF :: s.S.fs).length s.fc, .map (some K.bn), .map (some K.bt), .map (some K.bf), .slice K.sa (K.N + 1) K.sc, .int .i64 (s.S.fuel : Nat), .bool s.d].toArray 103 (0, 0)) :: SS))) (fun i => Nat.beq i 10) ?_; refine eP 0 rfl sM ?_; refine eP 1 rfl sN ?_; refine eP 2 rfl sF ?_; refine eK 3 rfl sL ?_; refine eP 4 rfl sF ?_; refine eK 5 rfl sL ?_; refine eP 6 rfl sM ?_; refine eK 7 rfl (s_idx rfl rfl hms (by rw [List.length_cons]; omega)) ?_; refine eK 8 rfl (s_ldB rfl ((hM.rdk hiA).cels (i := 0) rfl) lnA) ?_; refine eO 9 rfl ?_; refine oS (s_idx rfl rfl hsp2 (by omega)) ?_; refine oX (eO 10 rfl ?_); refine o_stSE x.n.toNat y hC pkA rfl rfl (by omega) (by rfl) fun S' hS' => ?_; refine o_nil ?_; refine x_oneL rfl ?_; refine eZ hK7 (c_region (oM ?_)); refine oS (step_cast (v' := .slice (midA wa wc 1 2) m.length (wc - 1)) (s_slice_lo rfl rfl (by have := hms.cap; rw [List.length_cons] at this ⊢; omega)) (by rw [List.length_cons]; rfl)) ?_; refine oA (o_nil (x_block (xZ hK4 (c_region ?_)))); refine oS sD ?_
    refine oM (o_nil ?_); exact xI (k + 1, midA wa wc 1 2, wc - 1, m, cs.set x.n.toNat y, S') ⟨by dsimp only; omega, hM.tail, (by have := hms.mid (k := 2) 1 m.length (by rw [List.length_cons]; omega); exact this), by dsimp only; rw [hdk, nG7_7 h7, List.length_cons] at hmg; omega, hS', by dsimp only; rw [List.length_set]; exact hcl2, by dsimp only; rw [← hrs, hdk, rst_7 h7]⟩
   ·refine oS (eqF (h := h7)) ?_; refine oZ hK6 ?_; refine cF (c_skip (x_block (xZ hK4 (c_region ?_)))); refine oS sD (oM (o_nil ?_)); exact xI (k + 1, wa, wc, m, cs, SS) ⟨by dsimp only; omega, hM, hms, by dsimp only; rw [hdk, nG7_n h7] at hmg; exact hmg, hC, hcl2, by dsimp only; rw [← hrs, hdk, rst_n h7]⟩
  ·obtain rfl : k = (K.sr.inn a b).length := by omega
   refine oS lsF (oZ hK2 (c_seq fun _ hK8 => ?_)); refine cF ?_; refine c_exit ?_; refine x_then_exit (x_then_exit (x_block_exit ?_)); refine x_sub (Sub.refl _) (H' := ((K.b, .cells [.slice K.ra K.re.length K.rc, .slice K.ta K.w.length K.tc, .slice K.ba K.bl.length K.bc, .slice K.xa K.R.length K.xc, .slice s.fa (zeroF :: s.S.fs).length s.fc, .map (some K.bn), .map (some K.bt), .map (some K.bf), .slice K.sa (K.N + 1) K.sc, .int .i64 (s.S.fuel : Nat), .bool s.d].toArray 103 (0, 0)) :: SS)) hzB ?_
   have hdn : (K.sr.inn a b).drop (K.sr.inn a b).length = [] := List.drop_length
   rw [hdn] at hrs
   have hrs : cs = rst (K.sr.inn a b) l s.S.cs := hrs
   subst hrs; exact x_end rfl (.nil) (⟨SS, rfl, hC⟩)
end Go.Proofs.YtloepfcndglmmaaDoor
namespace Go.HL.Kl.Mc
open Go Go.HL Go.HL.Kl AskE
def SpOk (K : SrE) (s : Sp) : Prop := s = noS ∨ (0 ≤ s.fr ∧ s.fr ≤ s.to ∧ s.to ≤ K.w.length)
def FrOk (K : SrE) (f : Frm) : Prop := ∃ x ks e, Part K.re (.nd x ks .nil) f.node e ∧ f.to ≤ K.w.length ∧ ((x.op = 4 ∧ ∃ g e2, Part K.re g f.kid e2 ∧ g.num = f.left) ∨ (x.op = 6 ∧ f.kid ≤ 255) ∨ (x.op = 7 ∧ f.fr ≤ f.to))
structure Fin (K : SrE) (S : SS) : Prop where
  fr : ∀ f ∈ S.fs, FrOk K f
  ch : Chn S.fs
  sp : ∀ s ∈ S.cs, SpOk K s
structure Gr (S S' : SS) : Prop where
  fs : S.fs.length ≤ S'.fs.length
  ts : S.ts.length ≤ S'.ts.length
  fuel : S'.fuel ≤ S.fuel
  cs : S'.cs.length = S.cs.length
theorem Gr.refl {S : SS} : Gr S S := ⟨Nat.le_refl _, Nat.le_refl _, Nat.le_refl _, rfl⟩
theorem Gr.trans {S S1 S2 : SS} (h : Gr S S1) (h' : Gr S1 S2) : Gr S S2 := ⟨Nat.le_trans h.fs h'.fs, Nat.le_trans h.ts h'.ts, Nat.le_trans h'.fuel h.fuel, h'.cs.trans h.cs⟩
theorem push_gr {S S1 : SS} {f : Frm} {u : Nat} (h : S.push f = (u, S1)) : Gr S S1 := by
  cases hf : fnd f S.fs with
  | some k => rw [push_some hf] at h; cases h; exact .refl
  | none => rw [push_none hf] at h; cases h; exact ⟨by simp, Nat.le_refl _, Nat.le_refl _, rfl⟩
theorem code_gr {K : SrE} {S : SS} : Gr S (K.code S).2 := by
  refine ⟨Nat.le_refl _, ?_, Nat.le_refl _, rfl⟩
  have : ∀ (hs : List (List Sp)) (ts : List Tk) (n : Nat), ts.length ≤ (stG ts n hs).2.length := by
    intro hs
    induction hs with
    | nil => intro ts n; exact Nat.le_refl _
    | cons h r ih =>
      intro ts n
      unfold stG
      split
      · exact ih _ _
      · have := ih (ts ++ [⟨n, h⟩]) (ts.length + 1)
        rw [List.length_append] at this
        exact Nat.le_trans (Nat.le_add_right _ _) this
  exact this _ _ _
theorem rst_len : ∀ (l : List Nd) (was cs : List Sp), (rst l was cs).length = cs.length
  | [], _, _ => rfl
  | x :: l, was, cs => by
    unfold rst
    split
    · rw [rst_len l, List.length_set]
    · exact rst_len l _ _
theorem fail_gr {S : SS} {b : Bool} {p : Pt} : Gr S (S.fail b p) := by
  cases b
  · exact ⟨Nat.le_refl _, Nat.le_refl _, Nat.le_refl _, rfl⟩
  · exact .refl
theorem tick_gr {S : SS} : Gr S S.tick := ⟨Nat.le_refl _, Nat.le_refl _, Nat.sub_le _ _, rfl⟩
theorem cs_gr {S : SS} {c : List Sp} (h : c.length = S.cs.length) : Gr S { S with cs := c } := ⟨Nat.le_refl _, Nat.le_refl _, Nat.le_refl _, h⟩
theorem Ev.mono {K : SrE} {S S' : SS} {q : SQ} {b : Bool} (h : Ev K S q b S') : Gr S S' := by
  induction h with
  | takeNo hx hf ho hg => exact tick_gr
  | takeYes hx hf ho hg h ih => exact tick_gr.trans ih
  | takeAlt hx hf ho h ih => exact tick_gr.trans ih
  | takeCat hx hf ho hp h ih => exact tick_gr.trans ((push_gr hp).trans ih)
  | takeRep hx hf ho hp h ih => exact tick_gr.trans ((push_gr hp).trans ih)
  | takeGrpY hx hf ho hp h ih => exact tick_gr.trans ((cs_gr (fgt_len _ _)).trans ((push_gr hp).trans ih))
  | takeGrpN hx hf ho hp h ih => exact tick_gr.trans ((cs_gr (fgt_len _ _)).trans ((push_gr hp).trans (ih.trans (cs_gr (rst_len _ _ _)))))
  | altNil => exact .refl
  | altYes h ih => exact ih
  | altNo h h' ih ih' => exact ih.trans ih'
  | nextZero => exact .refl
  | nextMemo h => exact code_gr
  | @nextGo S S2 k at_ f b hn hf h ih =>
    have g := ih.trans (fail_gr (b := b) (p := ⟨k + 1, at_, (K.code S).1⟩))
    exact (code_gr (K := K) (S := S)).trans ⟨g.fs, g.ts, g.fuel, g.cs⟩
  | bodyCat hx ho h ih => exact ih
  | bodyRep hx ho h ih => exact ih
  | bodyGrpY hx h4 h6 h ih => exact (cs_gr (List.length_set ..)).trans ih
  | bodyGrpN hx h4 h6 h ih => exact (cs_gr (List.length_set ..)).trans (ih.trans (cs_gr (List.length_set ..)))
  | rowZN hl he => exact .refl
  | rowZ hl he h ih => exact ih
  | rowS hl hp h ih => exact (push_gr hp).trans ih
  | rowLNil => exact .refl
  | rowLYes h ih => exact ih
  | rowLLast hl h ih => exact ih
  | rowLNo hl h h' ih ih' => exact ih.trans ih'
  | rndYes hx hm hp h ih => exact (push_gr hp).trans ih
  | rndEnd hx hm hp h he h' ih ih' => exact (push_gr hp).trans (ih.trans ih')
  | rndNo hx hm hp h he ih => exact (push_gr hp).trans ih
  | rnd0End hx hm he h' ih' => exact ih'
  | rnd0No hx hm he => exact .refl
  | rndLNil => exact .refl
  | rndLBrk hx hb => exact .refl
  | rndLYes hx hb h ih => exact (cs_gr (fgt_len _ _)).trans ih
  | rndLNo hx hb h h' ih ih' => exact (cs_gr (fgt_len _ _)).trans (ih.trans ((cs_gr (rst_len _ _ _)).trans ih'))
/-! the runs, turned round -/
section
variable {K : SrE} {S S' : SS} {b : Bool}
end
/-! what is well keeps well -/
theorem Fin.push {K : SrE} {S S1 : SS} {f : Frm} {u : Nat} (h : Fin K S) (hf : FrOk K f) (hu : f.up ≤ S.fs.length) (hp : S.push f = (u, S1)) : Fin K S1 ∧ 1 ≤ u ∧ u ≤ S1.fs.length := by
  cases hq : fnd f S.fs with
  | some k =>
    rw [push_some hq] at hp
    cases hp
    exact ⟨h, by omega, (List.getElem?_eq_some_iff.1 (fnd_some hq)).1⟩
  | none =>
    rw [push_none hq] at hp
    cases hp
    exact ⟨⟨fun g hg => (List.mem_append.1 hg).elim (h.fr g) fun e => by rw [List.mem_singleton.1 e]; exact hf, h.ch.snoc hu, h.sp⟩, by omega, by simp⟩
theorem emW_ok {P : Sp → Prop} (h0 : P noS) : ∀ (l : List Nd) (cs : List Sp), (∀ s ∈ cs, P s) → ∀ s ∈ emW l cs, P s
  | [], _, _, _, h => by cases h
  | x :: l, cs, hc, s, h => by
    by_cases h7 : x.op = 7
    · rw [emW_7 h7] at h
      rcases List.mem_cons.1 h with rfl | h
      · rw [List.getD_eq_getElem?_getD]
        cases e : cs[x.n.toNat]? with
        | none => exact h0
        | some y => exact hc y (List.mem_of_getElem? e)
      · exact emW_ok h0 l _ (fun y hy => (List.mem_or_eq_of_mem_set hy).elim (hc y) fun e => by rw [e]; exact h0) s h
    · rw [emW_n h7] at h; exact emW_ok h0 l cs hc s h
theorem fgt_ok {P : Sp → Prop} (h0 : P noS) : ∀ (l : List Nd) (cs : List Sp), (∀ s ∈ cs, P s) → ∀ s ∈ fgt l cs, P s
  | [], _, hc, s, h => hc s h
  | x :: l, cs, hc, s, h => by
    by_cases h7 : x.op = 7
    · rw [fgt_7 h7] at h
      exact fgt_ok h0 l _ (fun y hy => (List.mem_or_eq_of_mem_set hy).elim (hc y) fun e => by rw [e]; exact h0) s h
    · rw [fgt_n h7] at h; exact fgt_ok h0 l cs hc s h
theorem rst_ok {P : Sp → Prop} (h0 : P noS) : ∀ (l : List Nd) (was cs : List Sp), (∀ s ∈ was, P s) → (∀ s ∈ cs, P s) → ∀ s ∈ rst l was cs, P s
  | [], _, _, _, hc, s, h => hc s h
  | x :: l, was, cs, hw, hc, s, h => by
    unfold rst at h
    split at h
    · refine rst_ok h0 l _ _ (fun y hy => hw y (List.mem_of_mem_tail hy)) (fun y hy => (List.mem_or_eq_of_mem_set hy).elim (hc y) fun e => ?_) s h
      rw [e]
      cases was with
      | nil => exact h0
      | cons a l => exact hw a List.mem_cons_self
    · exact rst_ok h0 l _ _ hw hc s h
theorem Fin.fgt {K : SrE} {S : SS} (h : Fin K S) (l : List Nd) : Fin K { S with cs := Mc.fgt l S.cs } := ⟨h.fr, h.ch, fgt_ok (.inl rfl) l _ h.sp⟩
theorem Fin.rst {K : SrE} {S : SS} (h : Fin K S) (l : List Nd) {was : List Sp} (hw : ∀ s ∈ was, SpOk K s) : Fin K { S with cs := Mc.rst l was S.cs } := ⟨h.fr, h.ch, rst_ok (.inl rfl) l _ _ hw h.sp⟩
theorem Fin.set {K : SrE} {S : SS} (h : Fin K S) (n : Nat) {x : Sp} (hx : SpOk K x) : Fin K { S with cs := S.cs.set n x } := ⟨h.fr, h.ch, fun s hs => (List.mem_or_eq_of_mem_set hs).elim (h.sp s) fun e => by rw [e]; exact hx⟩
def dwn (p : Nat) (e : Int) : List Nat := down p (e + 1 - p).toNat
theorem dwn_ends {p q : Nat} : dwn p q = ends p q := by unfold dwn ends; congr 1; omega
theorem dwn_nil {p : Nat} {e : Int} (h : ¬ e ≥ p) : dwn p e = [] := by unfold dwn; rw [show (e + 1 - (p : Int)).toNat = 0 by omega]; rfl
theorem dwn_cons {p : Nat} {e : Nat} (h : p ≤ e) : dwn p e = e :: dwn p ((e : Int) - 1) := by
  unfold dwn
  rw [show ((e : Int) + 1 - (p : Int)).toNat = (e - p) + 1 by omega, down, show ((e : Int) - 1 + 1 - (p : Int)).toNat = e - p by omega]
  congr 1; omega
end Go.HL.Kl.Mc
