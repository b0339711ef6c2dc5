/- The tally of galleyref11: what its three functions keep, whatever they count. Conditions: none. -/
import Derived.Test.YtloepfcndglmmaaDoorVZW4Z
import Derived.Test.YtloepfcndglmmaaDoorHTZ
import Derived.Test.YtloepfcndglmmaaDoorHM2Z
namespace Go.Proofs.YtloepfcndglmmaaDoor
open Go Go.HL Go.Proofs Go.HL.Kl Go.HL.Kl.Mc Go.HL.Kl.Mc.AskE
structure TalE where
  (bT : Nat) (ra : Option Addr) (rc : Nat) (re : List Nd) (n : Nat) (ha : Option Addr) (hc : Nat) (hl : List Nat) (N : Nat)
namespace TalE
def vre (K : TalE) : Value := .slice K.ra K.re.length K.rc
def vbh (K : TalE) : Value := .slice K.ha K.hl.length K.hc
abbrev obj (K : TalE) (left : Int) : Nat × Obj := (K.bT, .cells [.slice K.ra K.re.length K.rc, .int .i64 (K.n : Nat), .slice K.ha K.hl.length K.hc, .int .i64 left].toArray 144 (0, 0))
structure ok (K : TalE) : Prop where
  rng : ∀ x ∈ K.re, -128 ≤ x.op ∧ x.op < 128
  rl : K.re.length ≤ 1000000
  nl : K.n ≤ 1000000
  Nl : K.N ≤ 1000000
  grp : ∀ y ∈ K.re, y.op = 7 → 1 ≤ y.n ∧ y.n ≤ K.N
  ref : ∀ y ∈ K.re, y.op = 8 → 1 ≤ y.n ∧ y.n ≤ K.N
  beh : ∀ k y js r i1, Part K.re (.nd y js r) k i1 → K.hl[k]? = some (k + 1 + js.size)
structure Env (K : TalE) (W : World) (S : Hp) : Prop where
  d1 : Rd En W (.slice K.ra K.re.length K.rc) K.re
  a1 : Apart (keys S) (.slice K.ra K.re.length K.rc)
  d2 : Rd Eix W (.slice K.ha K.hl.length K.hc) K.hl
  a2 : Apart (keys S) (.slice K.ha K.hl.length K.hc)
def Post (K : TalE) (left : Int) (d : Int) (Pool : Hp) (v : Value) (S' : Hp) : Prop := ∃ (a : Option Addr) (c : Nat) (zs : List (Sl Sp)) (Sz New : Hp) (lf : Int), v = .slice a zs.length c ∧ S' = K.obj lf :: (Sz ++ (New ++ Pool)) ∧
  OwnS Esl 1 32 (.slice a zs.length c) zs Sz ∧ PoolR zs K.N (New ++ Pool) ∧ (zs.length : Int) + lf ≤ left + d ∧ lf ≤ left ∧ -700000 ≤ lf
def NodeT (K : TalE) (L : Nat) : Prop := ∀ (x : Nd) (ks : F) (at_ i1 : Nat), Part K.re (.nd x ks .nil) at_ i1 → ∀ (i j : Nat), i ≤ j → j ≤ K.n → ∀ (c : Sl Sp) (Pool : Hp), RowP K.N Pool c → ∀ left : Int, 0 ≤ left → left < L → left ≤ 500000 →
  HL.Fn Tryd.prog 90 [pt K.bT, .int .i64 at_, .int .i64 i, .int .i64 j, .slice c.a c.xs.length c.c] (fun W => K.Env W (K.obj left :: Pool)) (K.obj left :: Pool) (K.Post left 0 Pool)
def RowT (K : TalE) (L : Nat) (f : F) : Prop := ∀ (at_ i1 : Nat), Part K.re f at_ i1 → ∀ (i j : Nat), i ≤ j → j ≤ K.n → ∀ (c : Sl Sp) (Pool : Hp), RowP K.N Pool c → ∀ left : Int, 0 ≤ left → left < L → left ≤ 500000 →
  HL.Fn Tryd.prog 107 [pt K.bT, .int .i64 at_, .int .i64 (f.num : Nat), .int .i64 i, .int .i64 j, .slice c.a c.xs.length c.c] (fun W => K.Env W (K.obj left :: Pool)) (K.obj left :: Pool) (K.Post left 1 Pool)
def RoundsT (K : TalE) (L : Nat) : Prop := ∀ (x y : Nd) (js : F) (at_ i1 : Nat), x.op = 6 → Part K.re (.nd x (.nd y js .nil) .nil) at_ i1 → ∀ (had : Nat), had ≤ 600000 → ∀ (i j : Nat), i ≤ j → j ≤ K.n → ∀ (c : Sl Sp) (Pool : Hp), RowP K.N Pool c → ∀ left : Int, 0 ≤ left → left < L → left ≤ 500000 → (had : Int) + left ≤ 600000 →
  HL.Fn Tryd.prog 109 [pt K.bT, .int .i64 at_, .int .i64 had, .int .i64 i, .int .i64 j, .slice c.a c.xs.length c.c] (fun W => K.Env W (K.obj left :: Pool)) (K.obj left :: Pool) (K.Post left 0 Pool)
end TalE
end Go.Proofs.YtloepfcndglmmaaDoor
namespace Go.Proofs.YtloepfcndglmmaaDoor
open Go Go.HL Go.Proofs Go.HL.Kl Go.HL.Kl.Mc Go.HL.Kl.Mc.AskE
namespace TalE
def PostV (K : TalE) (left : Int) (d : Int) (Pool : Hp) (C : List Caps → Int → Prop) (v : Value) (S' : Hp) : Prop := ∃ (a : Option Addr) (c : Nat) (zs : List (Sl Sp)) (Sz New : Hp) (lf : Int), v = .slice a zs.length c ∧ S' = K.obj lf :: (Sz ++ (New ++ Pool)) ∧
  OwnS Esl 1 32 (.slice a zs.length c) zs Sz ∧ PoolR zs K.N (New ++ Pool) ∧ (zs.length : Int) + lf ≤ left + d ∧ lf ≤ left ∧ -700000 ≤ lf ∧ (0 ≤ lf → C (zs.map Sl.xs) (left - lf))
def NodeV (K : TalE) (L : Nat) : Prop := ∀ (x : Nd) (ks : F) (at_ i1 : Nat), Part K.re (.nd x ks .nil) at_ i1 → ∀ (i j : Nat), i ≤ j → j ≤ K.n → ∀ (c : Sl Sp) (Pool : Hp), RowP K.N Pool c → ∀ left : Int, 0 ≤ left → left < L → left ≤ 500000 →
  HL.Fn Tryd.prog 90 [pt K.bT, .int .i64 at_, .int .i64 i, .int .i64 j, .slice c.a c.xs.length c.c] (fun W => K.Env W (K.obj left :: Pool)) (K.obj left :: Pool) (K.PostV left 0 Pool (NodeC' K.n x ks i j c.xs))
def RowV (K : TalE) (L : Nat) (f : F) : Prop := ∀ (at_ i1 : Nat), Part K.re f at_ i1 → ∀ (i j : Nat), i ≤ j → j ≤ K.n → ∀ (c : Sl Sp) (Pool : Hp), RowP K.N Pool c → ∀ left : Int, 0 ≤ left → left < L → left ≤ 500000 →
  HL.Fn Tryd.prog 107 [pt K.bT, .int .i64 at_, .int .i64 (f.num : Nat), .int .i64 i, .int .i64 j, .slice c.a c.xs.length c.c] (fun W => K.Env W (K.obj left :: Pool)) (K.obj left :: Pool) (K.PostV left 1 Pool (RowC K.n f i j c.xs))
def RoundsV (K : TalE) (L : Nat) : Prop := ∀ (x y : Nd) (js : F) (at_ i1 : Nat), x.op = 6 → Part K.re (.nd x (.nd y js .nil) .nil) at_ i1 → ∀ (had : Nat), had ≤ 600000 → ∀ (i j : Nat), i ≤ j → j ≤ K.n → ∀ (c : Sl Sp) (Pool : Hp), RowP K.N Pool c → ∀ left : Int, 0 ≤ left → left < L → left ≤ 500000 → (had : Int) + left ≤ 600000 →
  HL.Fn Tryd.prog 109 [pt K.bT, .int .i64 at_, .int .i64 had, .int .i64 i, .int .i64 j, .slice c.a c.xs.length c.c] (fun W => K.Env W (K.obj left :: Pool)) (K.obj left :: Pool) (K.PostV left 0 Pool (RndC K.n x y js had i j c.xs))
end TalE
end Go.Proofs.YtloepfcndglmmaaDoor
namespace Go.Proofs.YtloepfcndglmmaaDoor
open Go Go.HL Go.Proofs Go.HL.Kl Go.HL.Kl.Mc Go.HL.Kl.Mc.AskE
open TalE
set_option maxHeartbeats 4000000 in
theorem row_stepV (K : TalE) (hK : K.ok) (L : Nat) (hN : K.NodeV L) (f : F) (ih : ∀ g, g.size < f.size → K.RowV L g) (at_ i1 : Nat) (hp : Part K.re f at_ i1) (i j : Nat) (hij : i ≤ j) (hjn : j ≤ K.n) (c : Sl Sp) (Pool : Hp) (hc : RowP K.N Pool c) (left : Int) (h0 : 0 ≤ left) (hL : left < L) (h5 : left ≤ 500000) : HL.Fn Tryd.prog 107 [pt K.bT, .int .i64 at_, .int .i64 (f.num : Nat), .int .i64 i, .int .i64 j, .slice c.a c.xs.length c.c] (fun W => K.Env W (K.obj left :: Pool)) (K.obj left :: Pool) (K.PostV left 1 Pool (RowC K.n f i j c.xs)) := by
  refine fn_of Tryd.func107 rfl rfl rfl fun w0 hw => ?_
  have hnl := hK.nl
  have hNl := hK.Nl
  have hrl := hK.rl
  have hhs := hw.d2.sl
  have hple := hp.le
  have hnum := F.num_le f
  have hpl := hp.len
  refine cR fun _ hK1 => ?_; refine oA (oZ hK1 (c_seq fun _ hK2 => ?_)); refine cR fun _ hK3 => ?_; refine oM ?_
  by_cases hf0 : (f.num : Int) = 0
  ·refine oS eqT (oZ hK3 ?_); refine cT (c_seq fun _ hK4 => ?_); refine cR fun _ hK5 => ?_; refine oM (oM ?_)
   by_cases hne : (i : Int) ≠ j
   ·refine oS nqT (oZ hK5 ?_); refine cT (cR fun _ hK6 => ?_); refine oA (oZ hK6 (c_ret ?_)); refine x_then_ret (x_then_ret (?_))
    obtain rfl : f = F.nil := F.num_nil (by omega)
    exact xR rfl rfl (⟨none, 0, [], [], [], left, rfl, rfl, .nil, fun s hs => (by cases hs), by simp; omega, Int.le_refl _, by omega, fun _ => RowC.nilN (by omega) (by omega)⟩)
   ·refine oS nqF (oZ hK5 ?_); refine cFZ hK4 (cR fun _ hK7 => ?_); refine oM ?_; refine o_bs (E := Esl) (xs := [c]) (vs := [_]) rfl rfl rfl rfl rfl (by decide) (by decide) fun b23 S23 hS23 => ?_; refine oA (oZ hK7 (c_ret ?_)); refine x_then_ret (?_)
    obtain rfl : f = F.nil := F.num_nil (by omega)
    refine x_sub (Sub.refl _) (H' := K.obj left :: (S23 ++ ([] ++ Pool))) (by simpa using hzB) ?_; exact xR rfl rfl (⟨_, _, [c], S23, [], left, rfl, rfl, hS23, fun s hs => (by rw [List.mem_singleton.1 hs]; exact hc), by simp; omega, Int.le_refl _, by omega, fun _ => RowC.nilE (by omega) (List.mem_singleton_self _)⟩)
  ·obtain ⟨y, js, r, rfl⟩ : ∃ y js r, f = F.nd y js r := by cases f with | nil => exact absurd rfl hf0 | nd y a b => exact ⟨y, a, b, rfl⟩
   obtain ⟨hy, hpk, hpr⟩ := hp.head
   have hby := hK.beh _ _ _ _ _ hp
   have hp1 := hp.one
   have hbl := (List.getElem?_eq_some_iff.1 hby).1
   have hnm : (F.nd y js r).num = r.num + 1 := by simp [F.num]; try omega
   refine oS eqF (oZ hK3 ?_); refine cFZ hK2 (cR fun _ hK8 => ?_); refine oA (oZ hK8 (c_seq fun _ hK9 => ?_)); refine cR fun _ hK10 => ?_; refine oM (oA (oZ hK10 (c_block ?_))); refine c_loop7 (fun (e : Int) (ao : Option Addr) (co : Nat) (os : List (Sl Sp)) (So : Hp) (New : Hp) (lf : Int) => (i : Int) - 1 ≤ e ∧ e ≤ j ∧ OwnS Esl 1 32 (.slice ao os.length co) os So ∧ PoolR os K.N (New ++ Pool) ∧ (os.length : Int) + lf ≤ left ∧ lf ≤ left ∧ -700000 ≤ lf ∧ (r.num = 0 → (j : Int) - 1 ≤ e) ∧ (0 ≤ lf → GRow K.n y js r i j c.xs (ends (e + 1).toNat j) (os.map Sl.xs) (left - lf))) (fun (e : Int) (ao : Option Addr) (co : Nat) (os : List (Sl Sp)) (So : Hp) (New : Hp) (lf : Int) => [(14, .int .i64 e), (13, .slice ao os.length co)]) [(0, _), (1, _), (2, _), (3, _), (4, _), (5, _), (12, _)] (fun (e : Int) (ao : Option Addr) (co : Nat) (os : List (Sl Sp)) (So : Hp) (New : Hp) (lf : Int) => K.obj lf :: (So ++ (New ++ Pool))) (fun (e : Int) (ao : Option Addr) (co : Nat) (os : List (Sl Sp)) (So : Hp) (New : Hp) (lf : Int) => (e + 1 - i).toNat) (j : Int) none 0 [] [] [] left ⟨by omega, Int.le_refl _, .nil, fun s hs => (by cases hs), by simp, Int.le_refl _, by omega, fun _ => by omega, fun _ => by rw [show ((j : Int) + 1).toNat = j + 1 by omega, ends_none]; exact .nil (by omega)⟩ sbA sbA hzB ?_
   rintro e ao co os So New lf ⟨he1, he2, hO, hPo, hko, hlf, hlo, he3, hG⟩
   refine c_seq fun _ hK11 => ?_; refine cR fun _ hK12 => ?_; refine oM (oM ?_)
   by_cases hei : e ≥ (i : Int)
   ·obtain ⟨e, rfl⟩ : ∃ n : Nat, e = n := ⟨e.toNat, by omega⟩
    have hen : ((e : Int) + 1).toNat = e + 1 := by omega
    refine oS geT (oM ?_); refine oY (oM ?_); refine oY ?_; refine oS sN ?_; refine oY ?_; refine oS sF ?_; refine oY ?_; refine oS sL ?_; refine oY ?_
    by_cases hlf0 : lf ≥ 0
    ·refine oS geT ?_; refine oS sT (oZ hK12 ?_); refine cTZ hK11 (c_seq fun _ hK13 => ?_); refine c_block (c_seq fun _ hK14 => ?_); refine cR fun _ hK15 => ?_; refine oM ?_
     by_cases hn1 : ((F.nd y js r).num : Int) = 1
     ·refine oS eqT (oM ?_); refine oY (oM ?_); refine oY (oM ?_); refine oY ?_
      by_cases hejl : (e : Int) < j
      ·refine oS lsT ?_; refine oS sT (oZ hK15 ?_); refine cT ?_; refine c_exit ?_; refine x_then_exit ?_; refine x_block_pass rfl ?_; refine x_then_exit (x_then_exit (x_block_exit (xZ hK9 (cR fun _ hK16 => ?_)))); refine oM (oA (oZ hK16 (c_ret ?_))); refine ?_; refine x_sub (Sub.refl _) (H' := K.obj lf :: (So ++ (New ++ Pool))) hzB ?_
       have hfin : 0 ≤ lf → RowC K.n (F.nd y js r) i j c.xs (os.map Sl.xs) (left - lf) := fun h0 => by first | exact absurd h0 (by omega) | exact RowC.cons (hG h0) (ends_fin (fun h => by have := he3 h; omega) (fun h => by omega)) hij
       exact xR rfl rfl (⟨ao, co, os, So, New, lf, rfl, rfl, hO, hPo, by omega, hlf, hlo, hfin⟩)
      ·have hrj : r.num = 0 → e = j := by omega
       refine oS lsF ?_; refine oS sT (oZ hK15 ?_); refine cFZ hK14 (cR fun _ hK17 => ?_); refine oM (oM (oM (oM (oM ?_)))); refine o_call (hN y js at_ _ hp1 i e (by omega) (by omega) c (New ++ Pool) (hc.mono hiA) lf (by omega) (by omega) (by omega)) rfl rfl rfl ((Pick.takeC pkA pkA)) (fun _ st => ⟨(RdK.old hw.d1 hw.a1).out _ st, St.apart_M st (by exact hiB) hw.d1 hw.a1 (by decide), (RdK.old hw.d2 hw.a2).out _ st, St.apart_M st (by exact hiB) hw.d2 hw.a2 (by decide)⟩) (fun v49 S49 ⟨a49, c49, zs49, Sz49, New49, lf49, hv49, hS49, hO49, hP49, hk49, hl49, hb49, hC49⟩ => ?_)
       subst hv49; subst hS49
       refine oA (oZ hK17 (cR fun _ hK18 => ?_)); refine oA (oZ hK18 (c_block ?_)); refine c_loop7 (fun (k : Nat) (a2 : Option Addr) (c2 : Nat) (ws : List (Sl Sp)) (Sw : Hp) (New2 : Hp) (lk : Int) => k ≤ zs49.length ∧ OwnS Esl 1 32 (.slice a2 ws.length c2) ws Sw ∧ PoolR ws K.N (New2 ++ Pool) ∧ (ws.length : Int) + lk ≤ left ∧ lk ≤ left ∧ -700000 ≤ lk ∧ PoolR zs49 K.N (New2 ++ Pool) ∧ lk ≤ lf49 ∧ (0 ≤ lk → GRow K.n y js r i j c.xs (ends (e + 1) j) (ws.map Sl.xs) (left - lf) ∧ IAcc (fun c1 R k => Ct K.n (.row r e j c1) R k) ((zs49.take k).map Sl.xs) (ws.map Sl.xs) (lf49 - lk))) (fun (k : Nat) (a2 : Option Addr) (c2 : Nat) (ws : List (Sl Sp)) (Sw : Hp) (New2 : Hp) (lk : Int) => [(16, .int .i64 k), (13, .slice a2 ws.length c2)]) [(0, _), (1, _), (2, _), (3, _), (4, _), (5, _), (12, _), (14, _), (15, _), (25, _), (26, _), (27, _), (28, _), (29, _), (30, _), (31, _), (32, _), (33, _), (34, _), (37, _), (38, _), (39, _), (40, _), (41, _), (42, _), (43, _), (44, _), (45, _), (46, _), (47, _), (48, _), (49, _)] (fun (k : Nat) (a2 : Option Addr) (c2 : Nat) (ws : List (Sl Sp)) (Sw : Hp) (New2 : Hp) (lk : Int) => K.obj lk :: (Sw ++ (Sz49 ++ (New2 ++ Pool)))) (fun (k : Nat) (a2 : Option Addr) (c2 : Nat) (ws : List (Sl Sp)) (Sw : Hp) (New2 : Hp) (lk : Int) => zs49.length - k) 0 ao co os So (New49 ++ New) lf49 ⟨Nat.zero_le _, hO, by rw [List.append_assoc]; exact hPo.mono (HIn.app HIn.all), by omega, by omega, hb49, by rw [List.append_assoc]; exact hP49, Int.le_refl _, fun h => ⟨by rw [← hen]; exact hG (by omega), .nil (by omega)⟩⟩ sbA sbA (by simp only [List.append_assoc]; exact hzB) ?_
       rintro k a2 c2 ws Sw New2 lk ⟨hk, hOw, hPw, hkw, hlw, hbw, hPz, hlk9, hI2⟩
       refine c_seq fun _ hK19 => ?_; refine cR fun _ hK20 => ?_; refine oM (oM ?_); refine oS sC ?_
       by_cases hkl : (k : Int) < zs49.length
       ·obtain ⟨z, hzk⟩ : ∃ z, zs49[k]? = some z := gE
        have hzm := hP49 z (List.mem_of_getElem? hzk)
        have htk : zs49.take (k + 1) = zs49.take k ++ [z] := by rw [List.take_add_one, hzk]; rfl
        refine oS lsT (oM ?_); refine oY (oM ?_); refine oY ?_; refine oS sN ?_; refine oY ?_; refine oS sF ?_; refine oY ?_; refine oS sL ?_; refine oY ?_
        by_cases hlk0 : lk ≥ 0
        ·refine oS geT ?_; refine oS sT (oZ hK20 ?_); refine cTZ hK19 (c_seq fun _ hK21 => ?_); refine c_block ?_; refine c_drawE (Sz49) (fun i => false) ?_; refine eP 0 rfl sM ?_; refine eP 1 rfl sM ?_; refine eP 2 rfl sM ?_; refine eP 3 rfl sM ?_; refine eP 4 rfl sN ?_; refine eP 5 rfl sF ?_; refine eP 7 rfl sM ?_; refine eP 10 rfl sM ?_; refine eP 11 rfl (step_cast (v' := .int .i64 (r.num : Nat)) (s_sub rfl rfl (by omega)) (congrArg _ (by omega))) ?_; refine eP 12 rfl sM ?_; refine eP 13 rfl sM ?_; refine eP 14 rfl sM ?_; refine eP 15 rfl sM ?_; refine eP 16 rfl (s_idx rfl rfl hO49.sl (by omega)) ?_; refine eK 17 rfl (s_ld rfl ((hO49.rdk hiA).ld k 0 hzk rfl (by decide) (by omega))) ?_; refine eO 6 rfl ?_; refine oS sL (oX (eO 8 rfl ?_)); refine oS (s_idx rfl rfl hhs (by omega)) ?_; refine oX (eO 9 rfl ?_); refine oS (s_ld rfl ((RdK.old hw.d2 hw.a2).ld at_ 0 hby rfl (by decide) (by omega))) ?_; refine oX (eO 18 rfl ?_); refine o_call (ih r (by simp [F.size]; omega) _ _ hpr e j (by omega) hjn z (New2 ++ Pool) (hPz z (List.mem_of_getElem? hzk)) lk (by omega) (by omega) (by omega)) rfl rfl rfl ((Pick.takeC pkA pkA)) (fun _ st => ⟨(RdK.old hw.d1 hw.a1).out _ st, St.apart_M st (by exact hiB) hw.d1 hw.a1 (by decide), (RdK.old hw.d2 hw.a2).out _ st, St.apart_M st (by exact hiB) hw.d2 hw.a2 (by decide)⟩) (fun v81 S81 ⟨a81, c81, zs81, Sz81, New81, lf81, hv81, hS81, hO81, hP81, hk81, hl81, hb81, hC81⟩ => ?_)
         subst hv81; subst hS81
         refine oX (eO 19 rfl ?_); refine o_call (tAllV_fn K.bT K.ra K.rc K.re K.n K.ha K.hc K.hl lf81 a2 c2 ws Sw hOw a81 c81 zs81 Sz81 (New81 ++ (New2 ++ Pool)) hO81 K.N (hPw.mono hiB) hP81 hNl (by omega) hb81 (by omega) (by omega)) rfl rfl rfl ((Pick.takeC pkA (Pick.takeA pkA pkA))) (fun _ _ => trivial) (fun v82 S82 ⟨a82, c82, zs82, SL82, lf82, hv82, hS82, hO82, hP82, hk82, hl82, hb82, hC82⟩ => ?_); subst hv82
         subst hS82; refine oX (eO 20 rfl (oA (oX ?_))); refine e_done (by kernel_rfl) ?_; refine x_block (xZ hK21 (c_region (oM ?_))); refine oS sD (oA (o_nil ?_))
         have hIn : 0 ≤ lf82 → GRow K.n y js r i j c.xs (ends (e + 1) j) (zs82.map Sl.xs) (left - lf) ∧ IAcc (fun c1 R k => Ct K.n (.row r e j c1) R k) ((zs49.take (k + 1)).map Sl.xs) (zs82.map Sl.xs) (lf49 - lf82) := fun h0 => by
           obtain ⟨u1, u2, u3⟩ := hC82 h0
           have um : ∀ d ∈ ws.map Sl.xs, d ∈ zs82.map Sl.xs := fun d hd => by obtain ⟨s, s1, s2⟩ := List.mem_map.1 hd; exact List.mem_map.2 ⟨s, u1 s s1, s2⟩
           obtain ⟨v1, v2⟩ := hI2 (by omega)
           obtain ⟨kk, w1, w2⟩ := row_step (t2 := lk - lf82) (hC81 (by omega)) hrj (by rw [List.length_map]; omega)
           refine ⟨v1.mono um (Int.le_refl _), ?_⟩
           rw [htk, List.map_append, show lf49 - lf82 = (lf49 - lk) + (lk - lf82) by omega]
           exact (v2.mono um (Int.le_refl _)).snoc w1 (fun d hd => by obtain ⟨s, s1, s2⟩ := List.mem_map.1 hd; rw [← s2]; exact u2 s s1) w2
         exact x_then (x_inv (k + 1, a82, c82, zs82, SL82, New81 ++ New2, lf82) ⟨by dsimp only; omega, hO82, by rw [List.append_assoc]; exact hP82, by dsimp only; omega, by dsimp only; omega, hb82, by rw [List.append_assoc]; exact hPz.mono hiB, by dsimp only; omega, hIn⟩ (by first | omega | (dsimp only; omega)) sbA (by simp only [List.append_assoc]; exact hzB))
        ·refine oS geF ?_; refine oS sT (oZ hK20 ?_); refine cF ?_; refine c_exit ?_; refine x_then_exit (x_then_exit (x_block_exit (x_block (xZ hK13 (c_region (oM ?_)))))); refine oS sU (oA (o_nil ?_))
         have hGn : 0 ≤ lk → GRow K.n y js r i j c.xs (ends ((e : Int) - 1 + 1).toNat j) (ws.map Sl.xs) (left - lk) := fun h0 => by
           first
           | exact absurd h0 (by omega)
           | rw [show ((e : Int) - 1 + 1).toNat = e by omega, ends_snoc (by omega), show left - lk = (left - lf) + (lf - lf49) + (lf49 - lk) by omega]; obtain ⟨kn, hn1, hn2⟩ := hC49 (by omega); rw [htk] at hI2; exact GAcc.snoc (hI2 h0).1 ends_out hn1 hn2 (hI2 h0).2
         exact x_then (x_inv ((e : Int) - 1, a2, c2, ws, Sw, New2, lk) ⟨by dsimp only; omega, by dsimp only; omega, hOw, hPw, hkw, hlw, hbw, fun h => by have := hrj h; dsimp only; omega, hGn⟩ (by dsimp only; omega) sbA hzB)
       ·have htk : zs49.take k = zs49 := List.take_of_length_le (by omega)
        refine oS lsF (oM ?_); refine oN ?_; refine oN ?_; refine oN ?_; refine oN ?_; refine oN ?_; refine oS sP (oZ hK20 ?_); refine cF ?_; refine c_exit ?_; refine x_then_exit (x_then_exit (x_block_exit (x_block (xZ hK13 (c_region (oM ?_)))))); refine oS sU (oA (o_nil ?_))
        have hGn : 0 ≤ lk → GRow K.n y js r i j c.xs (ends ((e : Int) - 1 + 1).toNat j) (ws.map Sl.xs) (left - lk) := fun h0 => by
          first
          | exact absurd h0 (by omega)
          | rw [show ((e : Int) - 1 + 1).toNat = e by omega, ends_snoc (by omega), show left - lk = (left - lf) + (lf - lf49) + (lf49 - lk) by omega]; obtain ⟨kn, hn1, hn2⟩ := hC49 (by omega); rw [htk] at hI2; exact GAcc.snoc (hI2 h0).1 ends_out hn1 hn2 (hI2 h0).2
        exact x_then (x_inv ((e : Int) - 1, a2, c2, ws, Sw, New2, lk) ⟨by dsimp only; omega, by dsimp only; omega, hOw, hPw, hkw, hlw, hbw, fun h => by have := hrj h; dsimp only; omega, hGn⟩ (by dsimp only; omega) sbA hzB)
     ·have hrj : r.num = 0 → e = j := by omega
      refine oS eqF (oM ?_); refine oN ?_; refine oN ?_; refine oN ?_; refine oS sP (oZ hK15 ?_); refine cFZ hK14 (cR fun _ hK22 => ?_); refine oM (oM (oM (oM (oM ?_)))); refine o_call (hN y js at_ _ hp1 i e (by omega) (by omega) c (New ++ Pool) (hc.mono hiA) lf (by omega) (by omega) (by omega)) rfl rfl rfl ((Pick.takeC pkA pkA)) (fun _ st => ⟨(RdK.old hw.d1 hw.a1).out _ st, St.apart_M st (by exact hiB) hw.d1 hw.a1 (by decide), (RdK.old hw.d2 hw.a2).out _ st, St.apart_M st (by exact hiB) hw.d2 hw.a2 (by decide)⟩) (fun v49 S49 ⟨a49, c49, zs49, Sz49, New49, lf49, hv49, hS49, hO49, hP49, hk49, hl49, hb49, hC49⟩ => ?_)
      subst hv49; subst hS49
      refine oA (oZ hK22 (cR fun _ hK23 => ?_)); refine oA (oZ hK23 (c_block ?_)); refine c_loop7 (fun (k : Nat) (a2 : Option Addr) (c2 : Nat) (ws : List (Sl Sp)) (Sw : Hp) (New2 : Hp) (lk : Int) => k ≤ zs49.length ∧ OwnS Esl 1 32 (.slice a2 ws.length c2) ws Sw ∧ PoolR ws K.N (New2 ++ Pool) ∧ (ws.length : Int) + lk ≤ left ∧ lk ≤ left ∧ -700000 ≤ lk ∧ PoolR zs49 K.N (New2 ++ Pool) ∧ lk ≤ lf49 ∧ (0 ≤ lk → GRow K.n y js r i j c.xs (ends (e + 1) j) (ws.map Sl.xs) (left - lf) ∧ IAcc (fun c1 R k => Ct K.n (.row r e j c1) R k) ((zs49.take k).map Sl.xs) (ws.map Sl.xs) (lf49 - lk))) (fun (k : Nat) (a2 : Option Addr) (c2 : Nat) (ws : List (Sl Sp)) (Sw : Hp) (New2 : Hp) (lk : Int) => [(16, .int .i64 k), (13, .slice a2 ws.length c2)]) [(0, _), (1, _), (2, _), (3, _), (4, _), (5, _), (12, _), (14, _), (15, _), (25, _), (26, _), (27, _), (28, _), (29, _), (30, _), (31, _), (32, _), (33, _), (34, _), (37, _), (38, _), (39, _), (40, _), (41, _), (42, _), (43, _), (44, _), (45, _), (46, _), (47, _), (48, _), (49, _)] (fun (k : Nat) (a2 : Option Addr) (c2 : Nat) (ws : List (Sl Sp)) (Sw : Hp) (New2 : Hp) (lk : Int) => K.obj lk :: (Sw ++ (Sz49 ++ (New2 ++ Pool)))) (fun (k : Nat) (a2 : Option Addr) (c2 : Nat) (ws : List (Sl Sp)) (Sw : Hp) (New2 : Hp) (lk : Int) => zs49.length - k) 0 ao co os So (New49 ++ New) lf49 ⟨Nat.zero_le _, hO, by rw [List.append_assoc]; exact hPo.mono (HIn.app HIn.all), by omega, by omega, hb49, by rw [List.append_assoc]; exact hP49, Int.le_refl _, fun h => ⟨by rw [← hen]; exact hG (by omega), .nil (by omega)⟩⟩ sbA sbA (by simp only [List.append_assoc]; exact hzB) ?_
      rintro k a2 c2 ws Sw New2 lk ⟨hk, hOw, hPw, hkw, hlw, hbw, hPz, hlk9, hI2⟩
      refine c_seq fun _ hK24 => ?_; refine cR fun _ hK25 => ?_; refine oM (oM ?_); refine oS sC ?_
      by_cases hkl : (k : Int) < zs49.length
      ·obtain ⟨z, hzk⟩ : ∃ z, zs49[k]? = some z := gE
       have hzm := hP49 z (List.mem_of_getElem? hzk)
       have htk : zs49.take (k + 1) = zs49.take k ++ [z] := by rw [List.take_add_one, hzk]; rfl
       refine oS lsT (oM ?_); refine oY (oM ?_); refine oY ?_; refine oS sN ?_; refine oY ?_; refine oS sF ?_; refine oY ?_; refine oS sL ?_; refine oY ?_
       by_cases hlk0 : lk ≥ 0
       ·refine oS geT ?_; refine oS sT (oZ hK25 ?_); refine cTZ hK24 (c_seq fun _ hK26 => ?_); refine c_block ?_; refine c_drawE (Sz49) (fun i => false) ?_; refine eP 0 rfl sM ?_; refine eP 1 rfl sM ?_; refine eP 2 rfl sM ?_; refine eP 3 rfl sM ?_; refine eP 4 rfl sN ?_; refine eP 5 rfl sF ?_; refine eP 7 rfl sM ?_; refine eP 10 rfl sM ?_; refine eP 11 rfl (step_cast (v' := .int .i64 (r.num : Nat)) (s_sub rfl rfl (by omega)) (congrArg _ (by omega))) ?_; refine eP 12 rfl sM ?_; refine eP 13 rfl sM ?_; refine eP 14 rfl sM ?_; refine eP 15 rfl sM ?_; refine eP 16 rfl (s_idx rfl rfl hO49.sl (by omega)) ?_; refine eK 17 rfl (s_ld rfl ((hO49.rdk hiA).ld k 0 hzk rfl (by decide) (by omega))) ?_; refine eO 6 rfl ?_; refine oS sL (oX (eO 8 rfl ?_)); refine oS (s_idx rfl rfl hhs (by omega)) ?_; refine oX (eO 9 rfl ?_); refine oS (s_ld rfl ((RdK.old hw.d2 hw.a2).ld at_ 0 hby rfl (by decide) (by omega))) ?_; refine oX (eO 18 rfl ?_); refine o_call (ih r (by simp [F.size]; omega) _ _ hpr e j (by omega) hjn z (New2 ++ Pool) (hPz z (List.mem_of_getElem? hzk)) lk (by omega) (by omega) (by omega)) rfl rfl rfl ((Pick.takeC pkA pkA)) (fun _ st => ⟨(RdK.old hw.d1 hw.a1).out _ st, St.apart_M st (by exact hiB) hw.d1 hw.a1 (by decide), (RdK.old hw.d2 hw.a2).out _ st, St.apart_M st (by exact hiB) hw.d2 hw.a2 (by decide)⟩) (fun v81 S81 ⟨a81, c81, zs81, Sz81, New81, lf81, hv81, hS81, hO81, hP81, hk81, hl81, hb81, hC81⟩ => ?_)
        subst hv81; subst hS81
        refine oX (eO 19 rfl ?_); refine o_call (tAllV_fn K.bT K.ra K.rc K.re K.n K.ha K.hc K.hl lf81 a2 c2 ws Sw hOw a81 c81 zs81 Sz81 (New81 ++ (New2 ++ Pool)) hO81 K.N (hPw.mono hiB) hP81 hNl (by omega) hb81 (by omega) (by omega)) rfl rfl rfl ((Pick.takeC pkA (Pick.takeA pkA pkA))) (fun _ _ => trivial) (fun v82 S82 ⟨a82, c82, zs82, SL82, lf82, hv82, hS82, hO82, hP82, hk82, hl82, hb82, hC82⟩ => ?_); subst hv82
        subst hS82; refine oX (eO 20 rfl (oA (oX ?_))); refine e_done (by kernel_rfl) ?_; refine x_block (xZ hK26 (c_region (oM ?_))); refine oS sD (oA (o_nil ?_))
        have hIn : 0 ≤ lf82 → GRow K.n y js r i j c.xs (ends (e + 1) j) (zs82.map Sl.xs) (left - lf) ∧ IAcc (fun c1 R k => Ct K.n (.row r e j c1) R k) ((zs49.take (k + 1)).map Sl.xs) (zs82.map Sl.xs) (lf49 - lf82) := fun h0 => by
          obtain ⟨u1, u2, u3⟩ := hC82 h0
          have um : ∀ d ∈ ws.map Sl.xs, d ∈ zs82.map Sl.xs := fun d hd => by obtain ⟨s, s1, s2⟩ := List.mem_map.1 hd; exact List.mem_map.2 ⟨s, u1 s s1, s2⟩
          obtain ⟨v1, v2⟩ := hI2 (by omega)
          obtain ⟨kk, w1, w2⟩ := row_step (t2 := lk - lf82) (hC81 (by omega)) hrj (by rw [List.length_map]; omega)
          refine ⟨v1.mono um (Int.le_refl _), ?_⟩
          rw [htk, List.map_append, show lf49 - lf82 = (lf49 - lk) + (lk - lf82) by omega]
          exact (v2.mono um (Int.le_refl _)).snoc w1 (fun d hd => by obtain ⟨s, s1, s2⟩ := List.mem_map.1 hd; rw [← s2]; exact u2 s s1) w2
        exact x_then (x_inv (k + 1, a82, c82, zs82, SL82, New81 ++ New2, lf82) ⟨by dsimp only; omega, hO82, by rw [List.append_assoc]; exact hP82, by dsimp only; omega, by dsimp only; omega, hb82, by rw [List.append_assoc]; exact hPz.mono hiB, by dsimp only; omega, hIn⟩ (by first | omega | (dsimp only; omega)) sbA (by simp only [List.append_assoc]; exact hzB))
       ·refine oS geF ?_; refine oS sT (oZ hK25 ?_); refine cF ?_; refine c_exit ?_; refine x_then_exit (x_then_exit (x_block_exit (x_block (xZ hK13 (c_region (oM ?_)))))); refine oS sU (oA (o_nil ?_))
        have hGn : 0 ≤ lk → GRow K.n y js r i j c.xs (ends ((e : Int) - 1 + 1).toNat j) (ws.map Sl.xs) (left - lk) := fun h0 => by
          first
          | exact absurd h0 (by omega)
          | rw [show ((e : Int) - 1 + 1).toNat = e by omega, ends_snoc (by omega), show left - lk = (left - lf) + (lf - lf49) + (lf49 - lk) by omega]; obtain ⟨kn, hn1, hn2⟩ := hC49 (by omega); rw [htk] at hI2; exact GAcc.snoc (hI2 h0).1 ends_out hn1 hn2 (hI2 h0).2
        exact x_then (x_inv ((e : Int) - 1, a2, c2, ws, Sw, New2, lk) ⟨by dsimp only; omega, by dsimp only; omega, hOw, hPw, hkw, hlw, hbw, fun h => by have := hrj h; dsimp only; omega, hGn⟩ (by dsimp only; omega) sbA hzB)
      ·have htk : zs49.take k = zs49 := List.take_of_length_le (by omega)
       refine oS lsF (oM ?_); refine oN ?_; refine oN ?_; refine oN ?_; refine oN ?_; refine oN ?_; refine oS sP (oZ hK25 ?_); refine cF ?_; refine c_exit ?_; refine x_then_exit (x_then_exit (x_block_exit (x_block (xZ hK13 (c_region (oM ?_)))))); refine oS sU (oA (o_nil ?_))
       have hGn : 0 ≤ lk → GRow K.n y js r i j c.xs (ends ((e : Int) - 1 + 1).toNat j) (ws.map Sl.xs) (left - lk) := fun h0 => by
         first
         | exact absurd h0 (by omega)
         | rw [show ((e : Int) - 1 + 1).toNat = e by omega, ends_snoc (by omega), show left - lk = (left - lf) + (lf - lf49) + (lf49 - lk) by omega]; obtain ⟨kn, hn1, hn2⟩ := hC49 (by omega); rw [htk] at hI2; exact GAcc.snoc (hI2 h0).1 ends_out hn1 hn2 (hI2 h0).2
       exact x_then (x_inv ((e : Int) - 1, a2, c2, ws, Sw, New2, lk) ⟨by dsimp only; omega, by dsimp only; omega, hOw, hPw, hkw, hlw, hbw, fun h => by have := hrj h; dsimp only; omega, hGn⟩ (by dsimp only; omega) sbA hzB)
    ·refine oS geF ?_; refine oS sT (oZ hK12 ?_); refine cF ?_; refine c_exit ?_; refine x_then_exit (x_then_exit (x_block_exit (xZ hK9 (cR fun _ hK27 => ?_)))); refine oM (oA (oZ hK27 (c_ret ?_))); refine ?_; refine x_sub (Sub.refl _) (H' := K.obj lf :: (So ++ (New ++ Pool))) hzB ?_
     have hfin : 0 ≤ lf → RowC K.n (F.nd y js r) i j c.xs (os.map Sl.xs) (left - lf) := fun h0 => by first | exact absurd h0 (by omega) | exact RowC.cons (hG h0) (ends_fin (fun h => by have := he3 h; omega) (fun h => by omega)) hij
     exact xR rfl rfl (⟨ao, co, os, So, New, lf, rfl, rfl, hO, hPo, by omega, hlf, hlo, hfin⟩)
   ·refine oS geF (oM ?_); refine oN ?_; refine oN ?_; refine oN ?_; refine oN ?_; refine oN ?_; refine oS sP (oZ hK12 ?_); refine cF ?_; refine c_exit ?_; refine x_then_exit (x_then_exit (x_block_exit (xZ hK9 (cR fun _ hK28 => ?_)))); refine oM (oA (oZ hK28 (c_ret ?_))); refine ?_; refine x_sub (Sub.refl _) (H' := K.obj lf :: (So ++ (New ++ Pool))) hzB ?_
    have hfin : 0 ≤ lf → RowC K.n (F.nd y js r) i j c.xs (os.map Sl.xs) (left - lf) := fun h0 => by first | exact absurd h0 (by omega) | exact RowC.cons (hG h0) (ends_fin (fun h => by have := he3 h; omega) (fun h => by omega)) hij
    exact xR rfl rfl (⟨ao, co, os, So, New, lf, rfl, rfl, hO, hPo, by omega, hlf, hlo, hfin⟩)
end Go.Proofs.YtloepfcndglmmaaDoor
namespace Go.Proofs.YtloepfcndglmmaaDoor
open Go Go.HL Go.Proofs Go.HL.Kl Go.HL.Kl.Mc Go.HL.Kl.Mc.AskE
structure TalJ where
  (a : Option Addr) (c : Nat) (zs : List (Sl Sp)) (S New : Hp) (lf : Int)
end Go.Proofs.YtloepfcndglmmaaDoor
namespace Go.Proofs.YtloepfcndglmmaaDoor
open Go Go.HL Go.Proofs Go.HL.Kl Go.HL.Kl.Mc Go.HL.Kl.Mc.AskE
open TalE
set_option maxHeartbeats 4000000 in
theorem rounds_stepV (K : TalE) (hK : K.ok) (L : Nat) (hN : K.NodeV L) (ih : K.RoundsV L) (x y : Nd) (js : F) (at_ i1 : Nat) (h6 : x.op = 6) (hp : Part K.re (.nd x (.nd y js .nil) .nil) at_ i1) (had : Nat) (hhd : had ≤ 600000) (i j : Nat) (hij : i ≤ j) (hjn : j ≤ K.n) (c : Sl Sp) (Pool : Hp) (hc : RowP K.N Pool c) (left : Int) (h0 : 0 ≤ left) (hL : left < L + 1) (h5 : left ≤ 500000) (hhl : (had : Int) + left ≤ 600000) : HL.Fn Tryd.prog 109 [pt K.bT, .int .i64 at_, .int .i64 had, .int .i64 i, .int .i64 j, .slice c.a c.xs.length c.c] (fun W => K.Env W (K.obj left :: Pool)) (K.obj left :: Pool) (K.PostV left 0 Pool (RndC K.n x y js had i j c.xs)) := by
  refine fn_of Tryd.func109 rfl rfl rfl fun w0 hw => ?_
  have hnl := hK.nl
  have hNl := hK.Nl
  have hrl := hK.rl
  have hhs := hw.d2.sl
  have hres := hw.d1.sl
  have hple := hp.le
  have hpl := hp.len
  obtain ⟨hx, hpk, _⟩ := hp.head
  have hp1 := hpk.one
  have hby := hK.beh _ _ _ _ _ hp
  have hbl := (List.getElem?_eq_some_iff.1 hby).1
  have hbz : at_ + 1 + (F.nd y js .nil).size ≤ K.re.length := hpk.le
  have hat := (List.getElem?_eq_some_iff.1 hx).1
  have hcx := hc.1
  have hrf := rep_flds hp.wf.1 h6
  refine cR fun _ hK1 => ?_; refine oA (oZ hK1 (cR fun _ hK2 => ?_)); refine oM ?_; refine oS sN ?_; refine oS sF ?_; refine oS sL ?_; refine oS sU ?_; refine oS sN ?_; refine oS sF ?_; refine o_store rfl rfl rfl upA ltA rfl ?_; refine oZ hK2 (cR fun _ hK3 => ?_); refine oM ?_; refine oS sN ?_; refine oS sF ?_; refine oS sL (oM ?_); refine oS (s_idx rfl rfl hres (by omega)) ?_; refine oS (s_ldB rfl ((RdK.old hw.d1 hw.a1).lds at_ hx rfl) (by rfl)) ?_; refine o_alloc (l := En zN) (by rw [En_zero]; rfl) rfl fun b13 => ?_; refine o_stW rfl rfl upA lnA lnA onA ?_; refine oZ hK3 (cR fun _ hK4 => ?_); refine oA (oZ hK4 ?_); refine c_seqJ (ι := TalJ) (fun q => OwnS Esl 1 32 (.slice q.a q.zs.length q.c) q.zs q.S ∧ PoolR q.zs K.N (q.New ++ Pool) ∧ (q.zs.length : Int) + q.lf ≤ left - 1 ∧ q.lf ≤ left - 1 ∧ -700000 ≤ q.lf ∧ (0 ≤ q.lf → GRnd K.n x y js had i j c.xs (rEs x had i j) (q.zs.map Sl.xs) (left - 1 - q.lf))) (fun q => [(14, .slice q.a q.zs.length q.c)]) [(0, _), (2, _), (3, _), (4, _), (5, _), (12, _), (13, _)] (fun q => (b13, .cells (En x).toArray 80 (0, 0)) :: (K.bT, .cells [.slice K.ra K.re.length K.rc, .int .i64 (K.n : Nat), .slice K.ha K.hl.length K.hc, .int .i64 q.lf].toArray 144 (0, 0)) :: (q.S ++ (q.New ++ Pool))) sbA ?_ ?_
  ·rintro ⟨ao, co, os, So, New, lf⟩ ⟨hO, hPo, hko, hlf, hlo, hGq⟩
   dsimp only at hO hPo hko hlf hlo hGq ⊢
   refine c_seq fun _ hK6 => ?_; refine cR fun _ hK7 => ?_; refine oM (oM ?_)
   by_cases hijq : (i : Int) = j
   ·refine oS eqT (oM ?_); refine oY (oM ?_); refine oY ?_; refine oS sF ?_; refine oY ?_; refine oS sL ?_; refine oY ?_
    by_cases hmn2 : (had : Int) ≥ x.mn
    ·refine oS geT ?_; refine oS sT (oZ hK7 ?_); refine cT (c_region (oM (oM (oM ?_)))); refine o_bs (E := Esl) (xs := [c]) (vs := [_]) rfl rfl rfl rfl rfl (by decide) (by decide) fun b126 S126 hS126 => ?_; refine o_call (tAllV_fn K.bT K.ra K.rc K.re K.n K.ha K.hc K.hl lf ao co os So hO _ _ [c] S126 (New ++ Pool) hS126 K.N hPo (fun s hs => by rw [List.mem_singleton.1 hs]; exact hc.mono hiA) hNl (by omega) hlo (by simp) (by omega)) rfl rfl rfl ((Pick.takeC pkA (Pick.takeA pkA pkA))) (fun _ _ => trivial) (fun v127 S127 ⟨a127, c127, zs127, SL127, lf127, hv127, hS127, hO127, hP127, hk127, hl127, hb127, hC127⟩ => ?_); subst hv127
     subst hS127; refine oA (oZ hK6 (cR fun _ hK8 => ?_)); refine oM (oA (oZ hK8 (c_ret ?_))); refine ?_
     first | (refine x_sub (Sub.refl _) (H' := K.obj lf127 :: (SL127 ++ (New ++ Pool))) hzB ?_; exact x_ret rfl (.tmp rfl (.nil)) ⟨a127, c127, zs127, SL127, New, lf127, rfl, rfl, hO127, hP127, by omega, by omega, hb127, fun h0 => (by obtain ⟨u1, u2, u3⟩ := hC127 h0; exact RndC.of (hGq (by omega)) rfl (fun d hd => by obtain ⟨s, s1, s2⟩ := List.mem_map.1 hd; exact List.mem_map.2 ⟨s, u1 s s1, s2⟩) (fun _ _ => u2 c (List.mem_singleton_self _)) (by omega))⟩) | (refine x_sub (Sub.refl _) (H' := K.obj lf :: (So ++ (New ++ Pool))) hzB ?_; exact x_ret rfl (.tmp rfl (.nil)) ⟨ao, co, os, So, New, lf, rfl, rfl, hO, hPo, by omega, by omega, hlo, fun h0 => RndC.of (hGq h0) rfl (fun _ h => h) (fun h1 h2 => (by exfalso; omega)) (by omega)⟩)
    ·refine oS geF ?_; refine oS sT (oZ hK7 ?_); refine cFZ hK6 (cR fun _ hK9 => ?_); refine oM (oA (oZ hK9 (c_ret ?_))); refine ?_
     first | (refine x_sub (Sub.refl _) (H' := K.obj lf127 :: (SL127 ++ (New ++ Pool))) hzB ?_; exact x_ret rfl (.tmp rfl (.nil)) ⟨a127, c127, zs127, SL127, New, lf127, rfl, rfl, hO127, hP127, by omega, by omega, hb127, fun h0 => (by obtain ⟨u1, u2, u3⟩ := hC127 h0; exact RndC.of (hGq (by omega)) rfl (fun d hd => by obtain ⟨s, s1, s2⟩ := List.mem_map.1 hd; exact List.mem_map.2 ⟨s, u1 s s1, s2⟩) (fun _ _ => u2 c (List.mem_singleton_self _)) (by omega))⟩) | (refine x_sub (Sub.refl _) (H' := K.obj lf :: (So ++ (New ++ Pool))) hzB ?_; exact x_ret rfl (.tmp rfl (.nil)) ⟨ao, co, os, So, New, lf, rfl, rfl, hO, hPo, by omega, by omega, hlo, fun h0 => RndC.of (hGq h0) rfl (fun _ h => h) (fun h1 h2 => (by exfalso; omega)) (by omega)⟩)
   ·refine oS eqF (oM ?_); refine oN ?_; refine oN ?_; refine oN ?_; refine oN ?_; refine oS sP (oZ hK7 ?_); refine cFZ hK6 (cR fun _ hK10 => ?_); refine oM (oA (oZ hK10 (c_ret ?_))); refine ?_
    first | (refine x_sub (Sub.refl _) (H' := K.obj lf127 :: (SL127 ++ (New ++ Pool))) hzB ?_; exact x_ret rfl (.tmp rfl (.nil)) ⟨a127, c127, zs127, SL127, New, lf127, rfl, rfl, hO127, hP127, by omega, by omega, hb127, fun h0 => (by obtain ⟨u1, u2, u3⟩ := hC127 h0; exact RndC.of (hGq (by omega)) rfl (fun d hd => by obtain ⟨s, s1, s2⟩ := List.mem_map.1 hd; exact List.mem_map.2 ⟨s, u1 s s1, s2⟩) (fun _ _ => u2 c (List.mem_singleton_self _)) (by omega))⟩) | (refine x_sub (Sub.refl _) (H' := K.obj lf :: (So ++ (New ++ Pool))) hzB ?_; exact x_ret rfl (.tmp rfl (.nil)) ⟨ao, co, os, So, New, lf, rfl, rfl, hO, hPo, by omega, by omega, hlo, fun h0 => RndC.of (hGq h0) rfl (fun _ h => h) (fun h1 h2 => (by exfalso; omega)) (by omega)⟩)
  ·intro _ hJ5
   refine cR fun _ hK11 => ?_; refine oM (oA (oZ hK11 (c_block ?_))); refine c_loop7 (fun (ez : Int) (ao : Option Addr) (co : Nat) (os : List (Sl Sp)) (So : Hp) (New : Hp) (lf : Int) => (i : Int) - 1 ≤ ez ∧ ez ≤ j ∧ OwnS Esl 1 32 (.slice ao os.length co) os So ∧ PoolR os K.N (New ++ Pool) ∧ (os.length : Int) + lf ≤ left - 1 ∧ lf ≤ left - 1 ∧ -700000 ≤ lf ∧ (ez < j → (x.mx < 0 ∨ (had : Int) < x.mx)) ∧ (ez < i → ¬ (x.mn ≤ (had : Int) ∧ 0 < had)) ∧ (0 ≤ lf → GRnd K.n x y js had i j c.xs (ends (ez + 1).toNat j) (os.map Sl.xs) (left - 1 - lf))) (fun (ez : Int) (ao : Option Addr) (co : Nat) (os : List (Sl Sp)) (So : Hp) (New : Hp) (lf : Int) => [(15, .int .i64 ez), (14, .slice ao os.length co)]) [(0, _), (1, _), (2, _), (3, _), (4, _), (5, _), (12, _), (13, _)] (fun (ez : Int) (ao : Option Addr) (co : Nat) (os : List (Sl Sp)) (So : Hp) (New : Hp) (lf : Int) => (b13, .cells (En x).toArray 80 (0, 0)) :: K.obj lf :: (So ++ (New ++ Pool))) (fun (ez : Int) (ao : Option Addr) (co : Nat) (os : List (Sl Sp)) (So : Hp) (New : Hp) (lf : Int) => (ez + 1 - i).toNat) (j : Int) none 0 [] [] [] (left - 1) ⟨by omega, Int.le_refl _, .nil, fun s hs => (by cases hs), by simp, Int.le_refl _, by omega, fun h => absurd h (by omega), fun h => absurd h (by omega), fun _ => by rw [show ((j : Int) + 1).toNat = j + 1 by omega, ends_none]; exact .nil (by omega)⟩ sbA sbA hzB ?_
   rintro ez ao co os So New lf ⟨he1, he2, hO, hPo, hko, hlf, hlo, hcd, hnbz, hG⟩
   refine c_seqJ (ι := Nat) (fun e => ez = (e : Int) ∧ i ≤ e ∧ 0 ≤ lf ∧ (x.mx < 0 ∨ (had : Int) < x.mx)) (fun e => [(15, .int .i64 e)]) [(0, _), (1, _), (2, _), (3, _), (4, _), (5, _), (12, _), (13, _), (14, _)] (fun e => (b13, .cells (En x).toArray 80 (0, 0)) :: K.obj lf :: (So ++ (New ++ Pool))) sbA ?_ ?_
   ·rintro e ⟨hen, hei, hlf0, hco⟩
    subst hen
    have hen : ((e : Int) + 1).toNat = e + 1 := by omega
    refine c_seq fun _ hK13 => ?_; refine c_block ?_; refine c_seqJ (ι := Unit) (fun _u => (e = i → ¬ (x.mn ≤ (had : Int) ∧ 0 < had))) (fun _u => []) [(0, _), (1, _), (2, _), (3, _), (4, _), (5, _), (12, _), (13, _), (14, _), (15, _)] (fun _u => (b13, .cells (En x).toArray 80 (0, 0)) :: K.obj lf :: (So ++ (New ++ Pool))) sbA ?_ ?_
    ·rintro _ hnb
     refine cR fun _ hK15 => ?_; refine oM (oM ?_); refine oS sD (oM (oM (oM (oM (oM ?_))))); refine oS sD (oM ?_); refine oS sN ?_; refine oS sF ?_; refine oS sL (oM ?_); refine oS (s_idx rfl rfl hhs (by omega)) ?_; refine oS (s_ld rfl ((RdK.old hw.d2 hw.a2).ld at_ 0 hby rfl (by decide) (by omega))) ?_; refine o_call (tEmptiedV_fn K.bT _ K.ra K.rc K.re hK.rng hrl K.N hNl hK.grp c.a c.c c.xs hc.1 (at_ + 1) (at_ + 1 + (F.nd y js .nil).size) hbz) rfl rfl rfl (by exact .nil) (fun _ st => ⟨(RdPK.own meA).out _ st, (RdK.old hw.d1 hw.a1).out _ st, (hc.2.2.rdk hiA).out _ st⟩) (fun v85 S85 ⟨a85, c85, hv85, hO85⟩ => ?_)
     subst hv85
     rw [empTo_part hpk] at hO85
     have hx85 : (emp (F.nd y js .nil).flat c.xs).length = K.N := by rw [emp_len]; exact hc.1
     generalize hE : emp (F.nd y js .nil).flat c.xs = xs85 at hO85 hx85
     rw [← hx85] at hO85
     rw [← hx85]
     refine o_call (hN y js (at_ + 1) _ hp1 i e (by omega) (by omega) ⟨a85, c85, xs85⟩ (S85 ++ (New ++ Pool)) ⟨hx85, hO85.sl, hO85.rds.mono hiA⟩ lf (by omega) (by omega) (by omega)) rfl rfl rfl ((Pick.takeC pkA (Pick.takeA pkA pkA))) (fun _ st => ⟨(RdK.old hw.d1 hw.a1).out _ st, St.apart_M st (by exact hiB) hw.d1 hw.a1 (by decide), (RdK.old hw.d2 hw.a2).out _ st, St.apart_M st (by exact hiB) hw.d2 hw.a2 (by decide)⟩) (fun v86 S86 ⟨a86, c86, zs86, Sz86, New86, lf86, hv86, hS86, hO86, hP86, hk86, hl86, hb86, hC86⟩ => ?_); subst hv86
     subst hS86; refine oA (oZ hK15 (cR fun _ hK16 => ?_)); refine oA (oZ hK16 (c_block ?_)); refine c_loop7 (fun (k : Nat) (a2 : Option Addr) (c2 : Nat) (ws : List (Sl Sp)) (Sw : Hp) (New2 : Hp) (lk : Int) => k ≤ zs86.length ∧ OwnS Esl 1 32 (.slice a2 ws.length c2) ws Sw ∧ PoolR ws K.N (New2 ++ Pool) ∧ (ws.length : Int) + lk ≤ left - 1 ∧ lk ≤ left - 1 ∧ -700000 ≤ lk ∧ PoolR zs86 K.N (New2 ++ Pool) ∧ lk ≤ lf86 ∧ (0 ≤ lk → GRnd K.n x y js had i j c.xs (ends (e + 1) j) (ws.map Sl.xs) (left - 1 - lf) ∧ IAcc (fun c1 R k => Ct K.n (.rnd x y js (had + 1) e j c1) R k) ((zs86.take k).map Sl.xs) (ws.map Sl.xs) (lf86 - lk))) (fun (k : Nat) (a2 : Option Addr) (c2 : Nat) (ws : List (Sl Sp)) (Sw : Hp) (New2 : Hp) (lk : Int) => [(17, .int .i64 k), (14, .slice a2 ws.length c2)]) [(0, _), (1, _), (2, _), (3, _), (4, _), (5, _), (12, _), (13, _), (15, _), (16, _), (69, _), (70, _), (71, _), (72, _), (73, _), (74, _), (75, _), (76, _), (77, _), (78, _), (79, _), (80, _), (81, _), (82, _), (83, _), (84, _), (85, _), (86, _)] (fun (k : Nat) (a2 : Option Addr) (c2 : Nat) (ws : List (Sl Sp)) (Sw : Hp) (New2 : Hp) (lk : Int) => (b13, .cells (En x).toArray 80 (0, 0)) :: K.obj lk :: (Sw ++ (Sz86 ++ (New2 ++ Pool)))) (fun (k : Nat) (a2 : Option Addr) (c2 : Nat) (ws : List (Sl Sp)) (Sw : Hp) (New2 : Hp) (lk : Int) => zs86.length - k) 0 ao co os So (New86 ++ (S85 ++ New)) lf86 ⟨Nat.zero_le _, hO, by rw [List.append_assoc, List.append_assoc]; exact hPo.mono (HIn.app (HIn.app HIn.all)), by omega, by omega, hb86, by rw [List.append_assoc, List.append_assoc]; exact hP86, Int.le_refl _, fun h => ⟨by rw [← hen]; exact hG (by omega), .nil (by omega)⟩⟩ sbA sbA (by simp only [List.append_assoc]; exact hzB) ?_
     rintro k a2 c2 ws Sw New2 lk ⟨hk, hOw, hPw, hkw, hlw, hbw, hPz, hlk9, hI2⟩
     refine c_seq fun _ hK17 => ?_; refine cR fun _ hK18 => ?_; refine oM (oM ?_); refine oS sC ?_
     by_cases hkl : (k : Int) < zs86.length
     ·obtain ⟨z, hzk⟩ : ∃ z, zs86[k]? = some z := gE
      have htk : zs86.take (k + 1) = zs86.take k ++ [z] := by rw [List.take_add_one, hzk]; rfl
      refine oS lsT (oM ?_); refine oY (oM ?_); refine oY ?_; refine oS sN ?_; refine oY ?_; refine oS sF ?_; refine oY ?_; refine oS sL ?_; refine oY ?_
      by_cases hlk0 : lk ≥ 0
      ·refine oS geT ?_; refine oS sT (oZ hK18 ?_); refine cTZ hK17 (c_seq fun _ hK19 => ?_); refine c_block (c_region (oM (oM (oM (oM (oM ?_)))))); refine oS sD (oM (oM (oM (oM ?_)))); refine oS (s_idx rfl rfl hO86.sl (by omega)) ?_; refine oS (s_ld rfl ((hO86.rdk hiA).ld k 0 hzk rfl (by decide) (by omega))) ?_; refine o_call (ih x y js at_ i1 h6 hp (had + 1) (by omega) e j (by omega) hjn z (New2 ++ Pool) (hPz z (List.mem_of_getElem? hzk)) lk (by omega) (by omega) (by omega) (by omega)) rfl rfl rfl ((Pick.takeC pkA pkA)) (fun _ st => ⟨(RdK.old hw.d1 hw.a1).out _ st, St.apart_M st (by exact hiB) hw.d1 hw.a1 (by decide), (RdK.old hw.d2 hw.a2).out _ st, St.apart_M st (by exact hiB) hw.d2 hw.a2 (by decide)⟩) (fun v112 S112 ⟨a112, c112, zs112, Sz112, New112, lf112, hv112, hS112, hO112, hP112, hk112, hl112, hb112, hC112⟩ => ?_)
       subst hv112; subst hS112
       refine o_call (tAllV_fn K.bT K.ra K.rc K.re K.n K.ha K.hc K.hl lf112 a2 c2 ws Sw hOw a112 c112 zs112 Sz112 (New112 ++ (New2 ++ Pool)) hO112 K.N (hPw.mono hiB) hP112 hNl (by omega) hb112 (by omega) (by omega)) rfl rfl rfl ((Pick.takeC pkA (Pick.takeA pkA pkA))) (fun _ _ => trivial) (fun v113 S113 ⟨a113, c113, zs113, SL113, lf113, hv113, hS113, hO113, hP113, hk113, hl113, hb113, hC113⟩ => ?_); subst hv113
       subst hS113; refine oA (o_nil (x_block (xZ hK19 (c_region (oM ?_))))); refine oS sD (oA (o_nil ?_))
       have hIn : 0 ≤ lf113 → GRnd K.n x y js had i j c.xs (ends (e + 1) j) (zs113.map Sl.xs) (left - 1 - lf) ∧ IAcc (fun c1 R k => Ct K.n (.rnd x y js (had + 1) e j c1) R k) ((zs86.take (k + 1)).map Sl.xs) (zs113.map Sl.xs) (lf86 - lf113) := fun h0 => by
         obtain ⟨u1, u2, u3⟩ := hC113 h0
         have um : ∀ d ∈ ws.map Sl.xs, d ∈ zs113.map Sl.xs := fun d hd => by obtain ⟨s, s1, s2⟩ := List.mem_map.1 hd; exact List.mem_map.2 ⟨s, u1 s s1, s2⟩
         obtain ⟨v1, v2⟩ := hI2 (by omega)
         obtain ⟨kk, w1, w2⟩ := hC112 (by omega)
         refine ⟨v1.mono um (Int.le_refl _), ?_⟩
         rw [htk, List.map_append, show lf86 - lf113 = (lf86 - lk) + (lk - lf113) by omega]
         exact (v2.mono um (Int.le_refl _)).snoc w1 (fun d hd => by obtain ⟨s, s1, s2⟩ := List.mem_map.1 hd; rw [← s2]; exact u2 s s1) (by omega)
       exact x_then (x_inv (k + 1, a113, c113, zs113, SL113, New112 ++ New2, lf113) ⟨by dsimp only; omega, hO113, by rw [List.append_assoc]; exact hP113, by dsimp only; omega, by dsimp only; omega, hb113, by rw [List.append_assoc]; exact hPz.mono hiB, by dsimp only; omega, hIn⟩ (by first | omega | (dsimp only; omega)) sbA (by simp only [List.append_assoc]; exact hzB))
      ·refine oS geF ?_; refine oS sT (oZ hK18 ?_); refine cF ?_; refine c_exit ?_; refine x_then_exit (x_then_exit (x_block_exit (x_block (xZ hK13 (c_region (oM ?_)))))); refine oS sU (oA (o_nil ?_))
       have hGn : 0 ≤ lk → GRnd K.n x y js had i j c.xs (ends ((e : Int) - 1 + 1).toNat j) (ws.map Sl.xs) (left - 1 - lk) := fun h0 => by
         first
         | exact absurd h0 (by omega)
         | subst hE; rw [show ((e : Int) - 1 + 1).toNat = e by omega, ends_snoc (by omega), show left - 1 - lk = (left - 1 - lf) + (lf - lf86) + (lf86 - lk) by omega]; obtain ⟨kn, hn1, hn2⟩ := hC86 (by omega); rw [htk] at hI2; exact GAcc.snoc (hI2 h0).1 ends_out hn1 hn2 (hI2 h0).2
       exact x_then (x_inv ((e : Int) - 1, a2, c2, ws, Sw, New2, lk) ⟨by dsimp only; omega, by dsimp only; omega, hOw, hPw, hkw, hlw, hbw, fun _ => hco, fun h => hnb (by dsimp only at h; omega), hGn⟩ (by dsimp only; omega) sbA hzB)
     ·have htk : zs86.take k = zs86 := List.take_of_length_le (by omega)
      refine oS lsF (oM ?_); refine oN ?_; refine oN ?_; refine oN ?_; refine oN ?_; refine oN ?_; refine oS sP (oZ hK18 ?_); refine cF ?_; refine c_exit ?_; refine x_then_exit (x_then_exit (x_block_exit (x_block (xZ hK13 (c_region (oM ?_)))))); refine oS sU (oA (o_nil ?_))
      have hGn : 0 ≤ lk → GRnd K.n x y js had i j c.xs (ends ((e : Int) - 1 + 1).toNat j) (ws.map Sl.xs) (left - 1 - lk) := fun h0 => by
        first
        | exact absurd h0 (by omega)
        | subst hE; rw [show ((e : Int) - 1 + 1).toNat = e by omega, ends_snoc (by omega), show left - 1 - lk = (left - 1 - lf) + (lf - lf86) + (lf86 - lk) by omega]; obtain ⟨kn, hn1, hn2⟩ := hC86 (by omega); rw [htk] at hI2; exact GAcc.snoc (hI2 h0).1 ends_out hn1 hn2 (hI2 h0).2
      exact x_then (x_inv ((e : Int) - 1, a2, c2, ws, Sw, New2, lk) ⟨by dsimp only; omega, by dsimp only; omega, hOw, hPw, hkw, hlw, hbw, fun _ => hco, fun h => hnb (by dsimp only at h; omega), hGn⟩ (by dsimp only; omega) sbA hzB)
    ·intro _ hJ14
     refine cR fun _ hK20 => ?_; refine oM (oM ?_)
     by_cases hee : (e : Int) = i
     ·refine oS eqT (oM ?_); refine oY (oM ?_); refine oY ?_; refine oS sF ?_; refine oY ?_; refine oS sL ?_; refine oY ?_
      by_cases hmn : (had : Int) ≥ x.mn
      ·refine oS geT ?_; refine oS sT (oM ?_); refine oY (oM ?_); refine oY ?_
       by_cases hh0 : (had : Int) > 0
       ·refine oS gtT ?_; refine oS sT (oZ hK20 ?_); refine cT ?_; refine c_exit ?_; refine x_then_exit ?_; refine x_block_pass rfl ?_; refine x_then_exit (x_then_exit (x_block_exit ?_))
        have hGq : 0 ≤ lf → GRnd K.n x y js had i j c.xs (rEs x had i j) (os.map Sl.xs) (left - 1 - lf) := fun h0 => by first | exact absurd h0 (by omega) | exact GRnd.done (hG h0) hij (by omega)
        exact x_then (hJ5 ⟨ao, co, os, So, New, lf⟩ _ _ ⟨hO, hPo, hko, hlf, hlo, hGq⟩ sbA sbA hzB)
       ·refine oS gtF ?_; refine oS sT (oZ hK20 ?_); refine cF (c_skip ?_); exact x_then (hJ14 () _ _ (by omega) sbA sbA hzB)
      ·refine oS geF ?_; refine oS sT (oM ?_); refine oN ?_; refine oN ?_; refine oS sP (oZ hK20 ?_); refine cF (c_skip ?_); exact x_then (hJ14 () _ _ (by omega) sbA sbA hzB)
     ·refine oS eqF (oM ?_); refine oN ?_; refine oN ?_; refine oN ?_; refine oN ?_; refine oS sP (oM ?_); refine oN ?_; refine oN ?_; refine oS sP (oZ hK20 ?_); refine cF (c_skip ?_); exact x_then (hJ14 () _ _ (by omega) sbA sbA hzB)
   ·intro _ hJ12
    refine cR fun _ hK21 => ?_; refine oM (oM ?_)
    by_cases hei : ez ≥ (i : Int)
    ·refine oS geT (oM ?_); refine oY (oM ?_); refine oY ?_; refine oS sN ?_; refine oY ?_; refine oS sF ?_; refine oY ?_; refine oS sL ?_; refine oY ?_
     by_cases hlf0 : lf ≥ 0
     ·refine oS geT ?_; refine oS sT (oM ?_); refine oY ?_; refine oS sF ?_; refine oY ?_; refine oS sL ?_; refine oY ?_
      by_cases hmx : x.mx < 0
      ·refine oS lsT ?_; refine oY (oM ?_); refine oN ?_; refine oN ?_; refine oN ?_; refine oN ?_; refine oY ?_; refine oS sT ?_; refine oS sT (oZ hK21 ?_); refine cT (c_skip ?_); exact x_then (hJ12 ez.toNat _ _ ⟨by omega, by omega, by omega, by omega⟩ (by exact Sub.cons' rfl (congrArg _ (by omega)) sbA) sbA hzB)
      ·refine oS lsF ?_; refine oY (oM ?_); refine oY (oM ?_); refine oY ?_; refine oS sF ?_; refine oY ?_; refine oS sL ?_; refine oY ?_
       by_cases hmx2 : (had : Int) < x.mx
       ·refine oS lsT ?_; refine oY ?_; refine oS sP ?_; refine oS sT (oZ hK21 ?_); refine cT (c_skip ?_); exact x_then (hJ12 ez.toNat _ _ ⟨by omega, by omega, by omega, by omega⟩ (by exact Sub.cons' rfl (congrArg _ (by omega)) sbA) sbA hzB)
       ·refine oS lsF ?_; refine oY ?_; refine oS sP ?_; refine oS sT (oZ hK21 ?_); refine cF ?_; refine c_exit ?_; refine x_then_exit (x_then_exit (x_block_exit ?_))
        have hGq : 0 ≤ lf → GRnd K.n x y js had i j c.xs (rEs x had i j) (os.map Sl.xs) (left - 1 - lf) := fun h0 => by first | exact absurd h0 (by omega) | exact GRnd.done (hG h0) hij (by omega)
        exact x_then (hJ5 ⟨ao, co, os, So, New, lf⟩ _ _ ⟨hO, hPo, hko, hlf, hlo, hGq⟩ sbA sbA hzB)
     ·refine oS geF ?_; refine oS sT (oM ?_); refine oN ?_; refine oN ?_; refine oN ?_; refine oN ?_; refine oU ?_; refine oU ?_; refine oU ?_; refine oU ?_; refine oN ?_; refine oS sP (oZ hK21 ?_); refine cF ?_; refine c_exit ?_; refine x_then_exit (x_then_exit (x_block_exit ?_))
      have hGq : 0 ≤ lf → GRnd K.n x y js had i j c.xs (rEs x had i j) (os.map Sl.xs) (left - 1 - lf) := fun h0 => by first | exact absurd h0 (by omega) | exact GRnd.done (hG h0) hij (by omega)
      exact x_then (hJ5 ⟨ao, co, os, So, New, lf⟩ _ _ ⟨hO, hPo, hko, hlf, hlo, hGq⟩ sbA sbA hzB)
    ·refine oS geF (oM ?_); refine oN ?_; refine oN ?_; refine oN ?_; refine oN ?_; refine oN ?_; refine oS sP (oM ?_); refine oN ?_; refine oN ?_; refine oN ?_; refine oN ?_; refine oU ?_; refine oU ?_; refine oU ?_; refine oU ?_; refine oN ?_; refine oS sP (oZ hK21 ?_); refine cF ?_; refine c_exit ?_; refine x_then_exit (x_then_exit (x_block_exit ?_))
     have hGq : 0 ≤ lf → GRnd K.n x y js had i j c.xs (rEs x had i j) (os.map Sl.xs) (left - 1 - lf) := fun h0 => by first | exact absurd h0 (by omega) | exact GRnd.done (hG h0) hij (by omega)
     exact x_then (hJ5 ⟨ao, co, os, So, New, lf⟩ _ _ ⟨hO, hPo, hko, hlf, hlo, hGq⟩ sbA sbA hzB)
end Go.Proofs.YtloepfcndglmmaaDoor
namespace Go.Proofs.YtloepfcndglmmaaDoor
open Go Go.HL Go.Proofs Go.HL.Kl Go.HL.Kl.Mc Go.HL.Kl.Mc.AskE
end Go.Proofs.YtloepfcndglmmaaDoor
