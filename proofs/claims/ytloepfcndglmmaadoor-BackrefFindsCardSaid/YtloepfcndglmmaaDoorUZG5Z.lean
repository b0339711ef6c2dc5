/- Part of the proofs over this seat: see the text that holds the theorem. Conditions: each theorem bears its own. -/
import Derived.Test.YtloepfcndglmmaaDoorHTZ
import Derived.Test.YtloepfcndglmmaaDoorVZG3Z
import Derived.Test.YtloepfcndglmmaaDoorVZV7Z
import Derived.Test.YtloepfcndglmmaaDoorMT6Z
import Derived.Test.YtloepfcndglmmaaDoorHM2Z
import Derived.Test.YtloepfcndglmmaaDoorVZN3Z
import Derived.Test.YtloepfcndglmmaaDoorBT1Z
import Derived.Test.YtloepfcndglmmaaDoorVA1Z
import Derived.Test.YtloepfcndglmmaaDoorBS7Z
import Derived.Test.YtloepfcndglmmaaDoorBV1Z
namespace Go.Proofs.YtloepfcndglmmaaDoor
open Go Go.HL Go.Proofs Go.HL.Kl Go.HL.Kl.Mc Go.HL.Kl.Mc.AskE
open FinE
theorem own_outG {w0 w : World} {M : List Nat} {H S R : Hp} (st : St w0 w M H) (hpk : Pick H S R) {b : Nat} {o : Obj} (hm : (b, o) ∈ R) : b ∉ keys S := by
  have st2 := st.perm hpk.perm
  intro hb
  obtain ⟨⟨b', o'⟩, hm', rfl⟩ := List.mem_map.1 hb
  exact (List.pairwise_append.1 st2.nd).2.2 _ hm' _ hm rfl
def BestR (re : List Nd) (w : List UInt8) (x : Nd) (ks : F) (i j : Nat) (b : Bool) (L : List Sp) : Prop :=
  (b = false ∧ L = [] ∧ LF1 w x ks i j (C0 re) = []) ∨ ∃ cs, b = true ∧ L = ⟨(i : Nat), (j : Nat)⟩ :: cs ∧ (LF1 w x ks i j (C0 re)).head? = some cs ∧ cs.length = gcn re
def RkP (re : List Nd) (w : List UInt8) (p f : Int) (v : Value) (S' : Hp) : Prop :=
  (shapedB re = false ∧ v = .tuple #[.slice none 0 0, .bool false, .int .i64 49] ∧ S' = []) ∨ (shapedB re = true ∧ (¬ (0 ≤ p ∧ p ≤ w.length) ∨ f < 0) ∧ v = .tuple #[.slice none 0 0, .bool false, .int .i64 1] ∧ S' = []) ∨
  (shapedB re = true ∧ (0 ≤ p ∧ p ≤ w.length) ∧ 0 ≤ f ∧ ∃ b L a c, v = .tuple #[.slice a L.length c, .bool b, .int .i64 0] ∧ OwnS Esp 2 45 (.slice a L.length c) L S' ∧ BkRes re w p b L)
set_option maxHeartbeats 4000000 in
theorem rBest11_fn (ra : Option Addr) (rc : Nat) (re : List Nd) (hre : ∀ x ∈ re, -128 ≤ x.op ∧ x.op < 128) (ta : Option Addr) (tc : Nat) (w : List UInt8) (hwl : w.length ≤ 1000000) (x : Nd) (ks : F) (hsb : shapedB re = true) (hS : Shp re x ks) (i j : Nat) (hij : i ≤ j) (hjn : j ≤ w.length) (Z : List Caps) (kk : Nat) (hCt : Ct w.length (.node x ks i j (C0 re)) Z kk) (hkk : kk ≤ 800000) : HL.Fn Tryd.prog 89 [.slice ra re.length rc, .slice ta w.length tc, .agg (Esp ⟨i, j⟩).toArray] (fun W => Rd En W (.slice ra re.length rc) re ∧ Rd Eb W (.slice ta w.length tc) w) [] (fun v S' => ∃ b L a c, v = .tuple #[.slice a L.length c, .bool b] ∧ OwnS Esp 2 45 (.slice a L.length c) L S' ∧ BestR re w x ks i j b L) := by
  refine fn_of Tryd.func89 rfl rfl rfl fun w0 hw => ?_
  have hsl := hw.1.sl
  have hbl := hsl.le
  have hroot : Part re (.nd x ks .nil) 0 re.length := hS.part
  have hlen := hS.len
  have hgc : gcn re ≤ re.length := List.countP_le_length
  refine cR fun _ hK1 => ?_; refine o_box rfl rfl rfl fun b5 => ?_; refine oA (oA (oZ hK1 (cR fun _ hK2 => ?_))); refine oM (oM ?_); refine oS (step_cast (v' := .agg [.slice ra re.length rc, .slice ta w.length tc, .slice none 0 0].toArray) (s_build (cs := [_, _, _]) (vs := [_, _]) rfl rfl (.cons rfl rfl rfl rfl rfl (.cons rfl rfl rfl rfl rfl .nil))) rfl) ?_; refine o_box rfl rfl rfl fun b20 => ?_; refine oA (oZ hK2 (cR fun _ hK3 => ?_)); refine oA (oZ hK3 (c_seq fun _ hK4 => ?_)); refine cR fun _ hK5 => ?_; refine oA (oZ hK5 (c_block ?_)); refine c_loop5 (fun (q : Nat) (ha : Option Addr) (hc : Nat) (hl : List Nat) (Sh : Hp) => q ≤ re.length ∧ BehI re hl q ∧ OwnS Eix 1 3 (.slice ha hl.length hc) hl Sh) (fun (q : Nat) (ha : Option Addr) (hc : Nat) (hl : List Nat) (Sh : Hp) => [(10, .int .i64 q), (9, .int .i64 (gcn (re.take q) : Nat))]) [(0, _), (5, _), (6, _), (7, _), (8, _)] (fun (q : Nat) (ha : Option Addr) (hc : Nat) (hl : List Nat) (Sh : Hp) => (b20, .cells [.slice ra re.length rc, .slice ta w.length tc, .slice ha hl.length hc].toArray 192 (0, 0)) :: (b5, .cells (Esp ⟨i, j⟩).toArray 45 (0, 0)) :: Sh) (fun (q : Nat) (ha : Option Addr) (hc : Nat) (hl : List Nat) (Sh : Hp) => re.length - q) 0 none 0 [] [] ⟨Nat.zero_le _, BehI.nil, .nil⟩ sbA sbA hzB ?_
  rintro q ha hc hl Sh ⟨hql, hB, hOh⟩
  have hBl := hB.1
  refine c_seq fun _ hK6 => ?_; refine cR fun _ hK7 => ?_; refine oM (oM ?_); refine oS sC ?_; refine oS (s_lss rfl rfl) ?_; refine oZ hK7 ?_; refine c_if rfl (fun hq => ?_) (fun hq => ?_)
  ·obtain ⟨y, js, r, e, hp⟩ := part_at _ _ _ hroot q (Nat.zero_le _) (by omega)
   obtain ⟨hy, _, _⟩ := hp.head
   have hgt := gcn_take hy
   have hgq : gcn (re.take q) ≤ re.length := Nat.le_trans List.countP_le_length (by rw [List.length_take]; omega)
   have hyr := hre y (List.mem_of_getElem? hy)
   have hpe := hp.le
   have hpn := hp.len
   refine c_skip (xZ hK6 (c_seq fun _ hK8 => ?_)); refine c_block (cR fun _ hK9 => ?_); refine oA (oZ hK9 (cR fun _ hK10 => ?_)); refine oM (oA (oZ hK10 (c_seq fun _ hK11 => ?_))); refine c_block ?_; refine c_loop2 (fun (h : F) (k : Nat) => Part re h k (q + 1 + js.size)) (fun (h : F) (k : Nat) => [(11, .int .i64 (h.num : Nat)), (12, .int .i64 k)]) [(0, _), (5, _), (6, _), (7, _), (8, _), (9, _), (10, _), (21, _), (22, _), (23, _), (24, _), (27, _)] (fun (h : F) (k : Nat) => (b20, .cells [.slice ra re.length rc, .slice ta w.length tc, .slice ha hl.length hc].toArray 192 (0, 0)) :: (b5, .cells (Esp ⟨i, j⟩).toArray 45 (0, 0)) :: Sh) (fun (h : F) (k : Nat) => h.size) (F.nd y js .nil) q hp.one_end sbA sbA hzB ?_
   rintro h k hph
   refine c_seq fun _ hK12 => ?_; refine cR fun _ hK13 => ?_; refine oM ?_; refine oS (s_gtr rfl rfl) ?_; refine oZ hK13 ?_; refine c_if rfl (fun hleft => ?_) (fun hleft => ?_)
   ·obtain ⟨z, a, b, rfl⟩ : ∃ z a b, h = F.nd z a b := by cases h with | nil => exact absurd hleft (by simp [F.num]) | nd z a b => exact ⟨z, a, b, rfl⟩
    obtain ⟨hz, hpa, hpb⟩ := hph.head
    have hzw : (a.num : Int) = z.kids := hph.wf.2.1
    have hhl := hph.le
    have hhn := hph.len
    have hnn := F.num_le a
    have hnb := F.num_le b
    simp only [F.size] at hhn
    have hnm : (F.nd z a b).num = b.num + 1 := rfl
    refine c_skip (xZ hK12 (c_block (cR fun _ hK14 => ?_))); refine oM ?_; refine oS sU (oM (oM ?_)); refine oS (s_idx rfl rfl hsl (by omega)) ?_; refine oS sF ?_; refine oS (s_ld rfl ((RdK.old0 hw.1).ld k 8 hz rfl (by decide) (by omega))) ?_; refine oS (step_cast (v' := .int .i64 ((a.app b).num : Nat)) (s_add rfl rfl (by omega)) (congrArg _ (by rw [F.num_app]; omega))) ?_; refine oA (oZ hK14 (c_region (oM ?_))); refine oS sD (oA (o_nil (x_block ?_))); exact x_then (x_inv ((a.app b), k + 1) (hpa.app hpb) (by rw [F.size_app]; simp only [F.size]; omega) sbA hzB)
   ·obtain rfl := F.num_nil (f := h) (by omega)
    have hke := hph.len
    obtain rfl : k = q + 1 + js.size := by simp only [F.size] at hke; omega
    refine c_exit ?_; refine x_then_exit (x_then_exit (x_block_exit (xZ hK11 (cR fun _ hK15 => ?_)))); refine oM (oM ?_); refine oS sN ?_; refine oS sF ?_; refine oS sL (oM ?_); refine o_bs (E := Eix) (xs := [q + 1 + js.size]) (vs := [_]) rfl rfl rfl rfl rfl (by decide) (by decide) fun b46 S46 hS46 => ?_; refine o_app hOh (hS46.rdk hiA) rfl rfl rfl rfl (by simp only [List.length_singleton]; omega) (by simp only [List.length_singleton]; omega) rfl pkA fun a47 c47 S47 hS47 => ?_; refine oS sN ?_; refine oS sF ?_; refine o_store rfl rfl rfl upA ltA rfl ?_; refine oZ hK15 (cR fun _ hK16 => ?_); refine oM (oM ?_); refine oS (s_idx rfl rfl hsl (by omega)) ?_; refine oS sF ?_; refine oS (s_ld rfl ((RdK.old0 hw.1).ld q 0 hy rfl (by decide) (by omega))) ?_; refine oS (s_convI rfl (by omega)) ?_
    by_cases h7 : y.op = 7
    ·rw [if_pos h7] at hgt
     refine oS (eqT (h := h7)) ?_; refine oZ hK16 ?_; refine cT (c_region (oM ?_)); refine oS (step_cast (v' := .int .i64 (gcn (re.take (q + 1)) : Nat)) (s_add rfl rfl (by omega)) (congrArg _ (by omega))) ?_; refine oA (o_nil (x_block (xZ hK8 (c_region (oM ?_))))); refine oS sD (oA (o_nil ?_)); exact xI (q + 1, a47, c47, hl ++ [q + 1 + js.size], S47) ⟨by dsimp only; omega, hB.snoc hp, hS47⟩
    ·rw [if_neg h7] at hgt
     rw [show gcn (re.take q) = gcn (re.take (q + 1)) by omega]
     refine oS (eqF (h := h7)) ?_; refine oZ hK16 ?_; refine cF (c_skip (x_block (xZ hK8 (c_region (oM ?_))))); refine oS sD (oA (o_nil ?_)); exact xI (q + 1, a47, c47, hl ++ [q + 1 + js.size], S47) ⟨by dsimp only; omega, hB.snoc hp, hS47⟩
  ·obtain rfl : q = re.length := by omega
   rw [List.take_length]
   have hK : FinE.ok (⟨b20, ra, rc, re, ta, tc, w, ha, hc, hl, gcn re⟩ : FinE) := ⟨hre, by dsimp only; omega, hwl, by dsimp only; omega, fun y hy h7 => grp_le hsb hy h7, fun y hy h8 => ref_n hsb hy h8, fun k y js r e hp => hB.2 k y js r e (by have h1 := hp.le; have h2 := hp.len; simp only [F.size] at h2; dsimp only at h1; omega) hp⟩
   refine c_exit ?_; refine x_then_exit (x_then_exit (x_block_exit (xZ hK4 (cR fun _ hK17 => ?_)))); refine oA (oZ hK17 (c_seq fun _ hK18 => ?_)); refine cR fun _ hK19 => ?_; refine oA (oZ hK19 (c_block ?_)); refine c_loop5 (fun (k : Nat) (ac : Option Addr) (cc : Nat) (cs : List Sp) (Sc : Hp) => k ≤ gcn re ∧ cs.length = k ∧ cs = List.replicate k noS ∧ OwnS Esp 2 45 (.slice ac cs.length cc) cs Sc) (fun (k : Nat) (ac : Option Addr) (cc : Nat) (cs : List Sp) (Sc : Hp) => [(14, .int .i64 k), (13, .slice ac cs.length cc)]) [(5, _), (6, _), (7, _), (8, _), (9, _)] (fun (k : Nat) (ac : Option Addr) (cc : Nat) (cs : List Sp) (Sc : Hp) => (b20, .cells [.slice ra re.length rc, .slice ta w.length tc, .slice ha hl.length hc].toArray 192 (0, 0)) :: (b5, .cells (Esp ⟨i, j⟩).toArray 45 (0, 0)) :: (Sh ++ Sc)) (fun (k : Nat) (ac : Option Addr) (cc : Nat) (cs : List Sp) (Sc : Hp) => gcn re - k) 0 none 0 [] [] ⟨Nat.zero_le _, rfl, rfl, .nil⟩ sbA sbA hzB ?_
   rintro k ac cc cs Sc ⟨hk, hcl, hcR, hOc⟩
   refine c_seq fun _ hK20 => ?_; refine cR fun _ hK21 => ?_; refine oM (oM ?_); refine oS (s_lss rfl rfl) ?_; refine oZ hK21 ?_; refine c_if rfl (fun hkN => ?_) (fun hkN => ?_)
   ·refine c_skip (xZ hK20 (c_seq fun _ hK22 => ?_)); refine c_block (c_region (oM ?_)); refine oS (s_build (cs := [_, _]) (vs := [_, _]) rfl rfl (.cons rfl rfl rfl rfl rfl (.cons rfl rfl rfl rfl rfl (.nil)))) ?_; refine o_bs (E := Esp) (xs := [noS]) (vs := [_]) rfl rfl rfl rfl rfl (by decide) (by decide) fun b66 S66 hS66 => ?_; refine o_app hOc (hS66.rdk hiA) rfl rfl rfl rfl (by simp only [List.length_singleton]; omega) (by simp only [List.length_singleton]; omega) rfl pkA fun a67 c67 S67 hS67 => ?_; refine oA (o_nil (x_block (xZ hK22 (c_region (oM ?_))))); refine oS sD (oA (o_nil ?_)); exact xI (k + 1, a67, c67, cs ++ [noS], S67) ⟨by dsimp only; omega, by simp [hcl], by dsimp only; rw [hcR, ← List.replicate_succ'], hS67⟩
   ·obtain rfl : k = gcn re := by omega
    have hcN : cs.length = gcn re := hcl
    have hocs : OkC w.length cs := by rw [hcR]; exact okc_none
    refine c_exit ?_; refine x_then_exit (x_then_exit (x_block_exit (xZ hK18 (cR fun _ hK23 => ?_)))); refine oM ?_; refine oS sF ?_; refine oS sL ?_; refine oS sF ?_; refine oS sL (oM ?_); refine o_call (finder_all hK (ks.size + 1) x ks (Nat.lt_succ_self _) 0 _ hroot i j hij (show j ≤ w.length by omega) ⟨ac, cc, cs⟩ Sc ⟨hcN, hOc.sl, hOc.rds⟩ hocs Z kk (hcR ▸ hCt) hkk) rfl rfl rfl (pkA) (fun w st => ⟨(RdPK.own meA).out _ st, own_outG st pkA meA, (RdK.old0 hw.1).out _ st, St.apart_M st hiA hw.1 Apart.nil (by decide), (hOh.rdk hiA).out _ st, St.apart st pkA hOh hiA, (RdK.old0 hw.2).out _ st, St.apart_M st hiA hw.2 Apart.nil (by decide)⟩) (fun v74 S74 ⟨a74, c74, zs74, Sz74, New74, hv74, hS74, hO74, hP74, hm74⟩ => ?_)
    subst hv74; subst hS74
    have hm74 : zs74.map Sl.xs = ddp (LF1 w x ks i j (C0 re)) := by rw [show C0 re = cs from hcR.symm]; exact hm74
    have hz74 : zs74.length ≤ 1000000 := by
      have h : zs74.length = (ddp (LF1 w x ks i j (C0 re))).length := by rw [← hm74, List.length_map]
      rw [h]; exact Nat.le_trans (hCt.res hij).2 (by show kk ≤ _; omega)
    have hzsl := hO74.sl
    refine oA (oZ hK23 (c_seq fun _ hK24 => ?_)); refine cR fun _ hK25 => ?_; refine oM ?_; refine oS sC ?_
    by_cases hz0 : (zs74.length : Int) = 0
    ·obtain rfl : zs74 = [] := List.eq_nil_of_length_eq_zero (by omega)
     have hno : LF1 w x ks i j (C0 re) = [] := by
       cases e : LF1 w x ks i j (C0 re) with
       | nil => rfl
       | cons d l => have h := ddp_head (m := LF1 w x ks i j (C0 re)); rw [show addC [] (LF1 w x ks i j (C0 re)) = [] from hm74.symm, e] at h; cases h
     refine oS eqT (oZ hK25 ?_); refine cT (cR fun _ hK26 => ?_); refine oA (oA (oZ hK26 (c_ret ?_))); refine x_then_ret (?_); refine x_sub (Sub.refl _) (H' := []) hzB ?_; exact x_ret rfl (.tmp rfl (.tmp rfl (.nil))) (⟨false, [], none, 0, rfl, .nil, .inl ⟨rfl, rfl, hno⟩⟩)
    ·obtain ⟨z, hzk⟩ : ∃ z, zs74[0]? = some z := gE
     have hzp := hP74 z (List.mem_of_getElem? hzk)
     have hzN : z.xs.length = gcn re := hzp.1
     have hzs := hzp.2.1
     have hhd : (LF1 w x ks i j (C0 re)).head? = some z.xs := by
       rw [← ddp_head, ← show zs74.map Sl.xs = addC [] (LF1 w x ks i j (C0 re)) from hm74, List.head?_map, List.head?_eq_getElem?, hzk]; rfl
     refine oS eqF (oZ hK25 ?_); refine cFZ hK24 (cR fun _ hK27 => ?_); refine oS (s_ldB rfl ((RdPK.own meA).cels) (by rfl)) ?_; refine o_bs (E := Esp) (xs := [⟨i, j⟩]) (vs := [_]) rfl rfl rfl rfl rfl (by decide) (by decide) fun b79 S79 hS79 => ?_; refine oA (oZ hK27 (cR fun _ hK28 => ?_)); refine oM (oM ?_); refine oS (s_idx rfl rfl hzsl (by omega)) ?_; refine oS (s_ld rfl ((hO74.rdk hiA).ld 0 0 hzk rfl (by decide) (by omega))) ?_; refine o_app hS79 (hzp.2.2.rdk hiA) rfl rfl rfl rfl (by simp only [List.length_singleton]; omega) (by simp only [List.length_singleton]; omega) rfl pkA fun a84 c84 S84 hS84 => ?_; refine oA (oA (oZ hK28 (c_ret ?_))); refine ?_; refine x_sub (Sub.refl _) (H' := S84) hzB ?_; exact x_ret rfl (.tmp rfl (.tmp rfl (.nil))) (⟨true, _, a84, c84, rfl, hS84, .inr ⟨z.xs, rfl, rfl, hhd, hzN⟩⟩)
set_option maxHeartbeats 2000000 in
theorem rFind11_fn (ra : Option Addr) (rc : Nat) (re : List Nd) (hre : ∀ x ∈ re, -128 ≤ x.op ∧ x.op < 128) (ta : Option Addr) (tc : Nat) (w : List UInt8) (p f : Int) (hfit : shapedB re = true → Fits re w.length) : HL.Fn Tryd.prog 48 [.slice ra re.length rc, .slice ta w.length tc, .int .i64 p, .int .i64 f] (fun W => Rd En W (.slice ra re.length rc) re ∧ Rd Eb W (.slice ta w.length tc) w) [] (RkP re w p f) := by
  refine fn_of Tryd.func48 rfl rfl rfl fun w0 hw => ?_
  have hsl := hw.1.sl
  have htl := hw.2.sl
  refine cR fun _ hK1 => ?_; refine oA (oA (oA (oZ hK1 (c_seq fun _ hK2 => ?_)))); refine cR fun _ hK3 => ?_; refine oM ?_; refine o_callP (rShaped_fn ra rc re hre) rfl rfl rfl (fun _ st => (RdK.old0 hw.1).out _ st) (fun v16 hv16 => ?_); subst hv16
  cases hsb : shapedB re
  ·refine oS (s_not rfl) ?_; refine oZ hK3 ?_; refine cT (cR fun _ hK4 => ?_); refine oA (oA (oA (oZ hK4 (c_ret ?_)))); refine x_then_ret (?_); exact x_ret rfl (.tmp rfl (.tmp rfl (.tmp rfl (.nil)))) (.inl ⟨hsb, rfl, rfl⟩)
  ·obtain ⟨hn60, x, ks, hS, hLA⟩ := hfit hsb w.length rfl
   refine oS (s_not rfl) ?_; refine oZ hK3 ?_; refine cFZ hK2 (c_seq fun _ hK5 => ?_); refine cR fun _ hK6 => ?_; refine oM ?_
   by_cases hp0 : p < 0
   ·refine oS lsT (oM ?_); refine oN ?_; refine oN ?_; refine oN ?_; refine oN ?_; refine oS sT (oM ?_); refine oN ?_; refine oN ?_; refine oS sT (oZ hK6 ?_); refine cT (cR fun _ hK7 => ?_); refine oA (oA (oA (oZ hK7 (c_ret ?_)))); refine x_then_ret (?_); exact x_ret rfl (.tmp rfl (.tmp rfl (.tmp rfl (.nil)))) (.inr (.inl ⟨hsb, .inl (by omega), rfl, rfl⟩))
   ·obtain ⟨m, rfl⟩ : ∃ n : Nat, p = n := ⟨p.toNat, by omega⟩
    refine oS lsF (oM ?_); refine oY (oM ?_); refine oY (oM ?_); refine oY ?_; refine oS sC ?_; refine oY ?_
    by_cases hpn : (m : Int) > w.length
    ·refine oS gtT ?_; refine oS sP (oM ?_); refine oN ?_; refine oN ?_; refine oS sT (oZ hK6 ?_); refine cT (cR fun _ hK8 => ?_); refine oA (oA (oA (oZ hK8 (c_ret ?_)))); refine x_then_ret (?_); exact x_ret rfl (.tmp rfl (.tmp rfl (.tmp rfl (.nil)))) (.inr (.inl ⟨hsb, .inl (by omega), rfl, rfl⟩))
    ·refine oS gtF ?_; refine oS sP (oM ?_); refine oY (oM ?_); refine oY ?_
     by_cases hf0 : f < 0
     ·refine oS lsT ?_; refine oS sP (oZ hK6 ?_); refine cT (cR fun _ hK9 => ?_); refine oA (oA (oA (oZ hK9 (c_ret ?_)))); refine x_then_ret (?_); exact x_ret rfl (.tmp rfl (.tmp rfl (.tmp rfl (.nil)))) (.inr (.inl ⟨hsb, .inr (by omega), rfl, rfl⟩))
     ·refine oS lsF ?_; refine oS sP (oZ hK6 ?_); refine cFZ hK5 (c_seq fun _ hK10 => ?_); refine cR fun _ hK11 => ?_; refine oM (oA (oZ hK11 (c_block ?_)))
      -- not carried: 8 9 10
      refine c_loopB (fun (i : Nat) => m ≤ i ∧ i ≤ w.length + 1 ∧ (∀ i' j', m ≤ i' → i' < i → i' ≤ j' → j' ≤ w.length → LF1 w x ks i' j' (C0 re) = [])) (fun (i : Nat) => [(11, .int .i64 i)]) [(0, _), (1, _)] (fun (i : Nat) => []) (fun (i : Nat) => w.length + 1 - i) m ⟨Nat.le_refl _, by omega, fun i j h1 h2 => by omega⟩ sbA sbA hzB ?_
      rintro i ⟨him, hil, hno1⟩
      refine c_seq fun _ hK12 => ?_; refine cR fun _ hK13 => ?_; refine oM (oM ?_); refine oS sC ?_
      by_cases hin : (i : Int) ≤ w.length
      ·refine oS leT (oZ hK13 ?_); refine cTZ hK12 (c_seq fun _ hK14 => ?_); refine c_block (cR fun _ hK15 => ?_); refine oM ?_; refine oS sC (oA (oZ hK15 (c_block ?_))); refine c_loopB (fun (jz : Int) => (i : Int) - 1 ≤ jz ∧ jz ≤ w.length ∧ (∀ j' : Nat, jz < j' → j' ≤ w.length → LF1 w x ks i j' (C0 re) = [])) (fun (jz : Int) => [(12, .int .i64 jz)]) [(0, _), (1, _), (11, _), (31, _), (32, _), (33, _), (34, _), (37, _), (38, _)] (fun (jz : Int) => []) (fun (jz : Int) => (jz + 1 - i).toNat) (w.length : Int) ⟨by omega, Int.le_refl _, fun j' h1 h2 => by omega⟩ sbA sbA hzB ?_
       rintro jz ⟨hj1, hj2, hno2⟩
       refine c_seq fun _ hK16 => ?_; refine cR fun _ hK17 => ?_; refine oM (oM ?_)
       by_cases hji : jz ≥ (i : Int)
       ·obtain ⟨j, rfl⟩ : ∃ n : Nat, jz = n := ⟨jz.toNat, by omega⟩
        obtain ⟨Z, kk, hCt, hkk⟩ := hLA.at_ (i := i) (j := j) (mem_prs (by omega) (by omega) (by omega))
        have hCt : Ct w.length (.node x ks i j (C0 re)) Z kk := hCt
        refine oS geT (oZ hK17 ?_); refine cTZ hK16 (c_seq fun _ hK18 => ?_); refine c_block (cR fun _ hK19 => ?_); refine oM (oM (oM (oM ?_))); refine oS (s_build (cs := [_, _]) (vs := [_, _]) rfl rfl (.cons rfl rfl rfl rfl rfl (.cons rfl rfl rfl rfl rfl (.nil)))) ?_; refine o_call (rBest11_fn ra rc re hre ta tc w (by omega) x ks hsb hS i j (by omega) (by omega) Z kk hCt (by omega)) rfl rfl rfl (by exact .nil) (fun _ st => ⟨(RdK.old0 hw.1).out _ st, (RdK.old0 hw.2).out _ st⟩) (fun v50 S50 ⟨b, L, a50, c50, hv50, hO50, hr⟩ => ?_); subst hv50
        rcases hr with ⟨rfl, rfl, hno⟩ | ⟨cs, rfl, rfl, hhd, hcl⟩
        ·refine oM ?_; refine oS sE ?_; refine oS sE (oA (oA (oZ hK19 (cR fun _ hK20 => ?_)))); refine oM (oZ hK20 ?_); refine cF (c_skip (x_block (xZ hK18 (c_region (oM ?_))))); refine oS sU (oA (o_nil ?_)); exact x_then (x_inv ((j : Int) - 1) ⟨by omega, by omega, fun j' h1 h2 => if e : j' = j then (by rw [e]; exact hno) else hno2 j' (by omega) h2⟩ (by omega) sbA (by exact HSub.nil))
        ·refine oM ?_; refine oS sE ?_; refine oS sE (oA (oA (oZ hK19 (cR fun _ hK21 => ?_)))); refine oM (oZ hK21 ?_); refine cT (cR fun _ hK22 => ?_); refine oM (oA (oA (oA (oZ hK22 (c_ret ?_))))); refine x_block_ret (x_then_ret (x_then_ret (x_block_ret (x_block_ret (x_then_ret (x_then_ret (x_block_ret (x_then_ret (?_)))))))))
         refine x_sub (Sub.refl _) (H' := S50) hzB ?_; exact x_ret rfl (.tmp rfl (.tmp rfl (.tmp rfl (.nil)))) (.inr (.inr ⟨hsb, ⟨by omega, by omega⟩, by omega, true, _, a50, c50, rfl, hO50, .inr ⟨m, x, ks, rfl, by omega, hS, .inr ⟨i, j, cs, ⟨him, by omega, by omega, hhd, fun i' j' h1 h2 h3 h4 => hno1 i' j' h1 h2 h3 h4, fun j' h1 h2 => hno2 j' (by omega) h2, by rw [hcl, C0, List.length_replicate], LF1_okc okc_none (by omega) (by omega) _ (List.mem_of_mem_head? hhd)⟩, rfl, rfl⟩⟩⟩))
       ·refine oS geF (oZ hK17 ?_); refine cF ?_; refine c_exit ?_; refine x_then_exit (x_then_exit (x_block_exit (x_block (xZ hK14 (c_region (oM ?_)))))); refine oS sD (oA (o_nil ?_)); exact xI (i + 1) ⟨by omega, by omega, fun i' j' h1 h2 h3 h4 => (Nat.lt_or_ge i' i).elim (fun h => hno1 i' j' h1 h h3 h4) (fun h => (show i = i' by omega) ▸ hno2 j' (by omega) h4)⟩
      ·refine oS leF (oZ hK13 ?_); refine cF ?_; refine c_exit ?_; refine x_then_exit (x_then_exit (x_block_exit (xZ hK10 (cR fun _ hK23 => ?_)))); refine oA (oA (oA (oZ hK23 (c_ret ?_)))); refine ?_; exact x_ret rfl (.tmp rfl (.tmp rfl (.tmp rfl (.nil)))) ((.inr (.inr ⟨hsb, ⟨by omega, by omega⟩, by omega, false, [], none, 0, rfl, .nil, .inr ⟨m, x, ks, rfl, by omega, hS, .inl ⟨fun i' j' h1 h2 h3 => hno1 i' j' h1 (by omega) h2 h3, rfl, rfl⟩⟩⟩)))
end Go.Proofs.YtloepfcndglmmaaDoor
namespace Go.Proofs.YtloepfcndglmmaaDoor
open Go Go.HL Go.Proofs Go.HL.Kl Go.HL.Kl.Mc
set_option maxHeartbeats 1000000 in
theorem beyond_fn (ra : Option Addr) (rc : Nat) (re : List Nd) (hre : ∀ x ∈ re, -128 ≤ x.op ∧ x.op < 128) : HL.Fn Tryd.prog 21 [.slice ra re.length rc] (fun w => Rd En w (.slice ra re.length rc) re) [] (fun v _ => ∃ b, v = .bool b) := by
  refine fn_of Tryd.func21 rfl rfl rfl fun w0 hw => ?_
  have hsl := hw.sl
  have hbl := hsl.le
  refine cR fun _ hK1 => ?_; refine oA (oZ hK1 (cR fun _ hK2 => ?_)); refine oA (oZ hK2 (c_seq fun _ hK3 => ?_)); refine cR fun _ hK4 => ?_; refine oA (oZ hK4 (c_block ?_))
  -- not carried: 2
  refine c_loop3 (fun (j : Nat) (q : Sl Int) (S : Hp) => j ≤ re.length ∧ q.xs.length ≤ 65536 ∧ OwnS Ei 1 3 (.slice q.a q.xs.length q.c) q.xs S) (fun (j : Nat) (q : Sl Int) (S : Hp) => [(4, .int .i64 j), (3, .slice q.a q.xs.length q.c)]) [(0, _)] (fun (j : Nat) (q : Sl Int) (S : Hp) => S) (fun (j : Nat) (q : Sl Int) (S : Hp) => re.length - j) 0 ⟨none, 0, []⟩ [] ⟨by omega, by simp, .nil⟩ sbA sbA hzB ?_
  rintro j q0 S0 ⟨hj, hq0, hO0⟩
  refine c_seq fun _ hK5 => ?_; refine cR fun _ hK6 => ?_; refine oM (oM ?_); refine oS sC ?_
  by_cases hjl : j < re.length
  ·obtain ⟨x, hx⟩ : ∃ x, re[j]? = some x := ⟨_, List.getElem?_eq_getElem hjl⟩
   refine oS lsT (oZ hK6 ?_); refine cTZ hK5 (c_seq fun _ hK7 => ?_); refine c_block (c_seq fun _ hK8 => ?_); refine c_block ?_; refine c_loop2 (fun (q : Sl Int) (S : Hp) => q.xs.length ≤ 65536 ∧ OwnS Ei 1 3 (.slice q.a q.xs.length q.c) q.xs S) (fun (q : Sl Int) (S : Hp) => [(3, .slice q.a q.xs.length q.c)]) [(0, _), (4, _), (5, _), (6, _), (7, _), (8, _)] (fun (q : Sl Int) (S : Hp) => S) (fun (q : Sl Int) (S : Hp) => q.xs.length) q0 S0 ⟨hq0, hO0⟩ sbA sbA hzB ?_
   rintro q S ⟨hq, hO⟩
   have hOs := hO.sl
   have hOc := hOs.cap
   refine c_seq fun _ hK9 => ?_; refine cR fun _ hK10 => ?_; refine oM ?_; refine oS sC ?_
   by_cases hp0 : (q.xs.length : Int) > 0
   ·obtain ⟨u, hu⟩ : ∃ u, q.xs[q.xs.length - 1]? = some u := gE
    have hO1 := hO.pre (q.xs.length - 1) (by omega)
    have hql1 : (q.xs.take (q.xs.length - 1)).length = q.xs.length - 1 := by rw [List.length_take]; omega
    refine oS gtT (oM ?_); refine oY (oM ?_); refine oY (oM ?_); refine oY ?_; refine oS sC ?_; refine oY ?_; refine oS sU ?_; refine oY ?_; refine oS (s_idx rfl rfl hOs (by omega)) ?_; refine oY ?_; refine oS (s_ld rfl ((hO.rdk hiA).ld (q.xs.length - 1) 0 hu rfl (by decide) (by omega))) ?_; refine oY ?_
    by_cases hle : u ≤ 0
    ·refine oS leT ?_; refine oS sT (oZ hK10 ?_); refine cTZ hK9 (c_block (c_region (oM (oM ?_)))); refine oS sC ?_; refine oS sU ?_; refine oS (step_cast (v' := .slice q.a (q.xs.take (q.xs.length - 1)).length q.c) (s_slice_hi rfl rfl (by omega)) (by rw [hql1]; congr 1; omega)) ?_; refine oA (o_nil (x_block ?_)); exact x_then (x_inv (⟨q.a, q.c, q.xs.take (q.xs.length - 1)⟩, S) ⟨by rw [hql1]; omega, by dsimp only; rw [hql1]; exact hO1⟩ (by dsimp only; rw [hql1]; omega) sbA hzB)
    ·refine oS leF ?_; refine oS sT (oZ hK10 ?_); refine cF ?_; refine c_exit ?_; refine x_then_exit (x_then_exit (x_block_exit (xZ hK8 (c_seq fun _ hK11 => ?_)))); refine cR fun _ hK12 => ?_; refine oM ?_; refine oS sC ?_
     by_cases hp1 : (q.xs.length : Int) > 0
     ·obtain ⟨u2, hu2⟩ : ∃ u, q.xs[q.xs.length - 1]? = some u := gE
      refine oS gtT (oZ hK12 ?_); refine cT (c_region (oM (oM ?_))); refine oS sC ?_; refine oS sU (oM (oM ?_)); refine oS sC ?_; refine oS sU ?_; refine oS (s_idx rfl rfl hOs (by omega)) ?_; refine oS (s_ld rfl ((hO.rdk hiA).ld (q.xs.length - 1) 0 hu2 rfl (by decide) (by omega))) ?_; refine oS (s_subw rfl rfl) ?_; refine oS (s_idx rfl rfl hOs (by omega)) ?_; refine o_stS1 (q.xs.length - 1) _ hO pkA rfl rfl rfl (by omega) (by omega) fun S' hS' => ?_
      have hO := hS'
      refine oZ hK11 (cR fun _ hK13 => ?_); refine oM (oM (oM ?_)); refine oS (s_idx rfl rfl hsl (by omega)) ?_; refine oS sF ?_; refine oS (s_ld rfl ((RdK.old0 hw).ld j 8 hx rfl (by decide) (by omega))) ?_; refine o_bs (E := Ei) (xs := [x.kids]) (vs := [_]) rfl rfl rfl rfl rfl (by decide) (by decide) fun b49 S49 hS49 => ?_; refine o_app hO (hS49.rdk hiA) rfl rfl rfl rfl (by simp; omega) (by simp; omega) rfl pkA fun a50 c50 S50 hS50 => ?_; refine oA (oZ hK13 (cR fun _ hK14 => ?_)); refine oM ?_; refine oS sC ?_; refine oS (s_gtr rfl rfl) ?_; refine oZ hK14 ?_
      refine c_if rfl (fun hbig => ?_) (fun hbig => ?_)
      ·refine cR fun _ hK15 => ?_; refine oA (oZ hK15 (c_ret ?_)); refine x_block_ret (x_then_ret (x_then_ret (x_block_ret (x_then_ret (?_)))))
       exact xR rfl rfl (⟨_, rfl⟩)
      ·refine c_skip (x_block (xZ hK7 (c_region (oM ?_)))); refine oS sD (oA (o_nil ?_)); exact xI (j + 1, ⟨a50, c50, _⟩, S50) ⟨by omega, by dsimp only; omega, hS50⟩
     ·refine oS gtF (oZ hK12 ?_); refine cFZ hK11 (cR fun _ hK16 => ?_); refine oM (oM (oM ?_)); refine oS (s_idx rfl rfl hsl (by omega)) ?_; refine oS sF ?_; refine oS (s_ld rfl ((RdK.old0 hw).ld j 8 hx rfl (by decide) (by omega))) ?_; refine o_bs (E := Ei) (xs := [x.kids]) (vs := [_]) rfl rfl rfl rfl rfl (by decide) (by decide) fun b49 S49 hS49 => ?_; refine o_app hO (hS49.rdk hiA) rfl rfl rfl rfl (by simp; omega) (by simp; omega) rfl pkA fun a50 c50 S50 hS50 => ?_; refine oA (oZ hK16 (cR fun _ hK17 => ?_)); refine oM ?_; refine oS sC ?_; refine oS (s_gtr rfl rfl) ?_; refine oZ hK17 ?_; refine c_if rfl (fun hbig => ?_) (fun hbig => ?_)
      ·refine cR fun _ hK18 => ?_; refine oA (oZ hK18 (c_ret ?_)); refine x_block_ret (x_then_ret (x_then_ret (x_block_ret (x_then_ret (?_)))))
       exact xR rfl rfl (⟨_, rfl⟩)
      ·refine c_skip (x_block (xZ hK7 (c_region (oM ?_)))); refine oS sD (oA (o_nil ?_)); exact xI (j + 1, ⟨a50, c50, _⟩, S50) ⟨by omega, by dsimp only; omega, hS50⟩
   ·refine oS gtF (oM ?_); refine oN ?_; refine oN ?_; refine oN ?_; refine oN ?_; refine oN ?_; refine oN ?_; refine oN ?_; refine oS sP (oZ hK10 ?_); refine cF ?_; refine c_exit ?_; refine x_then_exit (x_then_exit (x_block_exit (xZ hK8 (c_seq fun _ hK19 => ?_)))); refine cR fun _ hK20 => ?_; refine oM ?_; refine oS sC ?_
    by_cases hp1 : (q.xs.length : Int) > 0
    ·obtain ⟨u2, hu2⟩ : ∃ u, q.xs[q.xs.length - 1]? = some u := gE
     refine oS gtT (oZ hK20 ?_); refine cT (c_region (oM (oM ?_))); refine oS sC ?_; refine oS sU (oM (oM ?_)); refine oS sC ?_; refine oS sU ?_; refine oS (s_idx rfl rfl hOs (by omega)) ?_; refine oS (s_ld rfl ((hO.rdk hiA).ld (q.xs.length - 1) 0 hu2 rfl (by decide) (by omega))) ?_; refine oS (s_subw rfl rfl) ?_; refine oS (s_idx rfl rfl hOs (by omega)) ?_; refine o_stS1 (q.xs.length - 1) _ hO pkA rfl rfl rfl (by omega) (by omega) fun S' hS' => ?_
     have hO := hS'
     refine oZ hK19 (cR fun _ hK21 => ?_); refine oM (oM (oM ?_)); refine oS (s_idx rfl rfl hsl (by omega)) ?_; refine oS sF ?_; refine oS (s_ld rfl ((RdK.old0 hw).ld j 8 hx rfl (by decide) (by omega))) ?_; refine o_bs (E := Ei) (xs := [x.kids]) (vs := [_]) rfl rfl rfl rfl rfl (by decide) (by decide) fun b49 S49 hS49 => ?_; refine o_app hO (hS49.rdk hiA) rfl rfl rfl rfl (by simp; omega) (by simp; omega) rfl pkA fun a50 c50 S50 hS50 => ?_; refine oA (oZ hK21 (cR fun _ hK22 => ?_)); refine oM ?_; refine oS sC ?_; refine oS (s_gtr rfl rfl) ?_; refine oZ hK22 ?_
     refine c_if rfl (fun hbig => ?_) (fun hbig => ?_)
     ·refine cR fun _ hK23 => ?_; refine oA (oZ hK23 (c_ret ?_)); refine x_block_ret (x_then_ret (x_then_ret (x_block_ret (x_then_ret (?_)))))
      exact xR rfl rfl (⟨_, rfl⟩)
     ·refine c_skip (x_block (xZ hK7 (c_region (oM ?_)))); refine oS sD (oA (o_nil ?_)); exact xI (j + 1, ⟨a50, c50, _⟩, S50) ⟨by omega, by dsimp only; omega, hS50⟩
    ·refine oS gtF (oZ hK20 ?_); refine cFZ hK19 (cR fun _ hK24 => ?_); refine oM (oM (oM ?_)); refine oS (s_idx rfl rfl hsl (by omega)) ?_; refine oS sF ?_; refine oS (s_ld rfl ((RdK.old0 hw).ld j 8 hx rfl (by decide) (by omega))) ?_; refine o_bs (E := Ei) (xs := [x.kids]) (vs := [_]) rfl rfl rfl rfl rfl (by decide) (by decide) fun b49 S49 hS49 => ?_; refine o_app hO (hS49.rdk hiA) rfl rfl rfl rfl (by simp; omega) (by simp; omega) rfl pkA fun a50 c50 S50 hS50 => ?_; refine oA (oZ hK24 (cR fun _ hK25 => ?_)); refine oM ?_; refine oS sC ?_; refine oS (s_gtr rfl rfl) ?_; refine oZ hK25 ?_; refine c_if rfl (fun hbig => ?_) (fun hbig => ?_)
     ·refine cR fun _ hK26 => ?_; refine oA (oZ hK26 (c_ret ?_)); refine x_block_ret (x_then_ret (x_then_ret (x_block_ret (x_then_ret (?_)))))
      exact xR rfl rfl (⟨_, rfl⟩)
     ·refine c_skip (x_block (xZ hK7 (c_region (oM ?_)))); refine oS sD (oA (o_nil ?_)); exact xI (j + 1, ⟨a50, c50, _⟩, S50) ⟨by omega, by dsimp only; omega, hS50⟩
  ·refine oS lsF (oZ hK6 ?_); refine cF ?_; refine c_exit ?_; refine x_then_exit (x_then_exit (x_block_exit (xZ hK3 (cR fun _ hK27 => ?_)))); refine oA (oZ hK27 (c_ret ?_)); refine ?_; exact xR rfl rfl (⟨_, rfl⟩)
end Go.Proofs.YtloepfcndglmmaaDoor
namespace Go.Proofs.YtloepfcndglmmaaDoor
open Go Go.HL Go.Proofs Go.HL.Kl Go.HL.Kl.Mc Go.HL.Kl.Mc.AskE
def AskP (ra : Option Addr) (rc : Nat) (re : List Nd) (ta : Option Addr) (tc : Nat) (w : List UInt8) (v : Value) (S' : Hp) : Prop := ∃ (K : AskE) (Se : Hp), K.nF = 92 ∧ K.rF = 93 ∧ K.re = re ∧ K.tx = w ∧ K.vre = .slice ra re.length rc ∧ K.vtx = .slice ta w.length tc ∧ K.ok ∧ v = pt K.bS ∧ OwnS Eix 1 3 K.ven K.l Se ∧
  S' = (K.bM, mpO [] 0) :: (K.bRe, .cells [K.vre].toArray 22 (0, 0)) :: (K.bTx, .cells [K.vtx].toArray 23 (0, 0)) :: (K.bA, .cells [pt K.bS].toArray 109 (0, 0)) :: (K.bS, .cells K.cells.toArray 115 (0, 0)) :: Se
theorem eqSpans_fn (a a2 : Option Addr) (c c2 : Nat) (xs ys : List Sp) : HL.Fn Tryd.prog 19 [.slice a xs.length c, .slice a2 ys.length c2] (fun w => Rd Esp w (.slice a xs.length c) xs ∧ Rd Esp w (.slice a2 ys.length c2) ys) [] (fun v _ => v = .bool (decide (xs = ys))) := by
  refine fn_of Tryd.func19 rfl rfl rfl fun w0 hw => ?_
  obtain ⟨hx, hy⟩ := hw
  have hsx := hx.sl
  have hsy := hy.sl
  have hbx := hsx.le
  have hby := hsy.le
  refine cR fun _ hK1 => ?_; refine oA (oZ hK1 (c_seq fun _ hK2 => ?_)); refine cR fun _ hK3 => ?_; refine oM ?_; refine oS sC (oM ?_); refine oS sC ?_; refine oS (s_neq rfl rfl) ?_; refine oZ hK3 ?_; refine c_if rfl (fun hl => ?_) (fun hl => ?_)
  ·refine cR fun _ hK4 => ?_; refine oA (oZ hK4 (c_ret ?_)); refine x_then_ret (?_); exact xR rfl rfl ((congrArg Value.bool (decide_eq_false (by intro e; subst e; omega)).symm))
  ·refine c_skip (xZ hK2 (c_seq fun _ hK5 => ?_)); refine cR fun _ hK6 => ?_; refine oA (oZ hK6 (c_block ?_))
   -- not carried: 4
   refine c_loopB (fun (j : Nat) => j ≤ xs.length ∧ ∀ i, i < j → xs[i]? = ys[i]?) (fun (j : Nat) => [(5, .int .i64 j)]) [(0, _), (1, _)] (fun (j : Nat) => _) (fun (j : Nat) => xs.length - j) 0 ⟨by omega, fun i hi => by omega⟩ sbA sbA hzB ?_
   rintro j ⟨hj, hjt⟩
   refine c_seq fun _ hK7 => ?_; refine cR fun _ hK8 => ?_; refine oM (oM ?_); refine oS sC ?_; refine oS (s_lss rfl rfl) ?_; refine oZ hK8 ?_; refine c_if rfl (fun hlt => ?_) (fun hlt => ?_)
   ·obtain ⟨x, hxj⟩ : ∃ x, xs[j]? = some x := gE
    obtain ⟨y, hyj⟩ : ∃ y, ys[j]? = some y := gE
    refine c_skip (xZ hK7 (c_seq fun _ hK9 => ?_)); refine c_block (c_seq fun _ hK10 => ?_); refine c_drawE ([]) (fun i => false) ?_; refine e_tk 0 rfl (by exact HSub.nil) sM ?_; refine e_tk 1 rfl (by exact HSub.nil) sM ?_; refine e_tk 2 rfl (by exact HSub.nil) (s_idx rfl rfl hsx (by omega)) ?_; refine e_tk 3 rfl (by exact HSub.nil) (s_ldB rfl ((RdK.old0 hx).lds j hxj (by omega)) (by rfl)) ?_; refine e_tk 4 rfl (by exact HSub.nil) sM ?_; refine e_tk 5 rfl (by exact HSub.nil) sM ?_; refine e_tk 6 rfl (by exact HSub.nil) (s_idx rfl rfl hsy (by omega)) ?_; refine e_tk 7 rfl (by exact HSub.nil) (s_ldB rfl ((RdK.old0 hy).lds j hyj (by omega)) (by rfl)) ?_; refine e_tk 8 rfl (by exact HSub.nil) (s_neq_sp rfl rfl) ?_; refine eZ hK10 ?_; refine c_ifn rfl (fun hne => ?_) (fun hne => ?_)
    ·refine cR fun _ hK11 => ?_; refine oA (oZ hK11 (c_ret ?_)); refine x_block_ret (x_then_ret (x_then_ret (x_block_ret (x_then_ret (?_)))))
     exact xR rfl rfl ((congrArg Value.bool (decide_eq_false (by intro e; subst e; rw [hxj] at hyj; cases hyj; exact hne rfl)).symm))
    ·refine c_skip (x_block (xZ hK9 (c_region (oM ?_)))); refine oS sD (oA (o_nil ?_)); exact xI (j + 1) ⟨by omega, fun i hi => by rcases Nat.lt_or_ge i j with h | h; exact hjt i h; rw [show i = j by omega, hxj, hyj, hne]⟩
   ·refine c_exit ?_; refine x_then_exit (x_then_exit (x_block_exit (xZ hK5 (cR fun _ hK12 => ?_)))); refine oA (oZ hK12 (c_ret ?_)); refine ?_; exact xR rfl rfl ((congrArg Value.bool (decide_eq_true (ext_upto (by omega) fun i hi => hjt i (by omega))).symm))
def FR (re : List Nd) (w : List UInt8) (p Fz e : Int) (b : Bool) (L : List Sp) : Prop :=
  (e = 0 ∧ shapedB re = true ∧ (0 ≤ p ∧ p ≤ w.length) ∧ 0 ≤ Fz ∧ BkRes re w p b L) ∨ (e ≠ 0 ∧ b = false ∧ L = [] ∧ ((e = 49 ∧ shapedB re = false) ∨ (e = 1 ∧ shapedB re = true ∧ (¬ (0 ≤ p ∧ p ≤ w.length) ∨ Fz < 0)) ∨ (e = 52 ∧ shapedB re = true ∧ 0 ≤ Fz ∧ ∃ x ks, Shp re x ks ∧ Fz < (enN ks ((F.nd x ks .nil).weight) re w.length : Nat))))
theorem BkF.out {re : List Nd} {w : List UInt8} {p Fz : Int} {v : Value} {S' : Hp} (h : BkF re w p Fz v S') : ∃ a L c b e, v = .tuple #[.slice a L.length c, .bool b, .int .i64 e] ∧ OwnS Esp 2 45 (.slice a L.length c) L S' ∧ FR re w p Fz e b L := by
  rcases h with ⟨h, h1, rfl, rfl⟩ | ⟨h, h1⟩ | ⟨h, h1, h2, rfl, rfl, x, ks, hS, h3⟩
  · exact ⟨none, [], 0, false, 1, rfl, .nil, .inr ⟨by decide, rfl, rfl, .inr (.inl ⟨rfl, h, .inr h1⟩)⟩⟩
  · rcases h with ⟨h, rfl, rfl⟩ | ⟨h, h2, rfl, rfl⟩ | ⟨h, m, rfl, hm, x, ks, hS, ⟨h2, rfl, rfl⟩ | ⟨i, j, c, a, cc, hB, rfl, hO⟩⟩
    · exact ⟨none, [], 0, false, 49, rfl, .nil, .inr ⟨by decide, rfl, rfl, .inl ⟨rfl, h⟩⟩⟩
    · exact ⟨none, [], 0, false, 1, rfl, .nil, .inr ⟨by decide, rfl, rfl, .inr (.inl ⟨rfl, h, .inl h2⟩)⟩⟩
    · exact ⟨none, [], 0, false, 0, rfl, .nil, .inl ⟨rfl, h, ⟨by omega, by omega⟩, h1 h (by omega) (by omega), .inr ⟨m, x, ks, rfl, hm, hS, .inl ⟨h2, rfl, rfl⟩⟩⟩⟩
    · have hcl : gcn re + 1 = ((⟨(i : Nat), (j : Nat)⟩ : Sp) :: c).length := by rw [List.length_cons, hB.len, C0, List.length_replicate]
      exact ⟨a, _, cc, true, 0, by rw [hcl], by rw [← hcl]; exact hO, .inl ⟨rfl, h, ⟨by omega, by omega⟩, h1 h (by omega) (by omega), .inr ⟨m, x, ks, rfl, hm, hS, .inr ⟨i, j, c, hB, rfl, rfl⟩⟩⟩⟩
  · exact ⟨none, [], 0, false, 52, rfl, .nil, .inr ⟨by decide, rfl, rfl, .inr (.inr ⟨rfl, h, h2, x, ks, hS, h3⟩)⟩⟩
theorem FR.same {re : List Nd} {w : List UInt8} {p Fz e : Int} {b : Bool} {L : List Sp} {v : Value} {S' : Hp} (h : FR re w p Fz e b L) (he : e ≠ 52) (hr : RkP re w p Fz v S') : ∃ a c, v = .tuple #[.slice a L.length c, .bool b, .int .i64 e] ∧ OwnS Esp 2 45 (.slice a L.length c) L S' := by
  rcases h with ⟨rfl, hs, h1, h2, hB⟩ | ⟨_, rfl, rfl, ⟨rfl, hs⟩ | ⟨rfl, hs, h1⟩ | ⟨rfl, _⟩⟩
  · rcases hr with ⟨h, _⟩ | ⟨_, h, _⟩ | ⟨_, _, _, b', L', a, c, hv, hO, hB'⟩
    · rw [hs] at h; cases h
    · exact absurd h (by omega)
    · obtain ⟨rfl, rfl⟩ := hB.uniq hB'
      exact ⟨a, c, hv, hO⟩
  · rcases hr with ⟨_, hv, rfl⟩ | ⟨h, _⟩ | ⟨h, _⟩
    · exact ⟨none, 0, hv, .nil⟩
    · rw [hs] at h; cases h
    · rw [hs] at h; cases h
  · rcases hr with ⟨h, _⟩ | ⟨_, _, hv, rfl⟩ | ⟨_, h2, h3, _⟩
    · rw [hs] at h; cases h
    · exact ⟨none, 0, hv, .nil⟩
    · omega
  · exact absurd rfl he
theorem FR.dry {re : List Nd} {w : List UInt8} {p Fz : Int} {b : Bool} {L : List Sp} (h : FR re w p Fz 52 b L) : b = false ∧ L = [] ∧ shapedB re = true ∧ 0 ≤ Fz ∧ ∃ x ks, Shp re x ks ∧ Fz < (enN ks ((F.nd x ks .nil).weight) re w.length : Nat) := by
  rcases h with ⟨h, _⟩ | ⟨_, h1, h2, ⟨h, _⟩ | ⟨h, _⟩ | ⟨_, h⟩⟩
  · cases h
  · cases h
  · cases h
  · exact ⟨h1, h2, h⟩
theorem FR.en {re : List Nd} {w : List UInt8} {p Fz : Int} {b : Bool} {L : List Sp} {v : Value} (h : FR re w p Fz 52 b L) (h' : (¬ (shapedB re = true ∧ 0 ≤ (w.length : Int)) ∧ v = .int .i64 0) ∨ ∃ x ks, Shp re x ks ∧ shapedB re = true ∧ 0 ≤ (w.length : Int) ∧ v = .int .i64 ((enN ks ((F.nd x ks .nil).weight) re (w.length : Int).toNat : Nat) : Int)) : ∃ k : Int, v = .int .i64 k ∧ Fz < k := by
  obtain ⟨_, _, hs, _, x, ks, hS, hk⟩ := h.dry
  rcases h' with ⟨h, _⟩ | ⟨y, js, hS', _, _, rfl⟩
  · exact absurd ⟨hs, Int.natCast_nonneg _⟩ h
  · obtain ⟨rfl, rfl⟩ := hS.uniq hS'
    exact ⟨_, rfl, by rw [Int.toNat_natCast]; exact hk⟩
theorem bFindG_fn (ra : Option Addr) (rc : Nat) (re : List Nd) (hre : ∀ x ∈ re, -128 ≤ x.op ∧ x.op < 128) (ta : Option Addr) (tc : Nat) (w : List UInt8) (p Fz : Int) (hf2 : Fz ≤ 9223372036854775807) (hfit : shapedB re = true → Fits re w.length) : HL.Fn Tryd.prog 16 [.slice ra re.length rc, .slice ta w.length tc, .int .i64 p, .int .i64 Fz] (fun W => Rd En W (.slice ra re.length rc) re ∧ Rd Eb W (.slice ta w.length tc) w ∧ RdP W 0 0 (Esp noS)) [] (BkF re w p Fz) := by
  cases hsb : shapedB re with
  | false => exact (bFindU_fn ra rc re hre ta tc w p Fz hsb).weaken (fun _ h => h) fun v S' h => .inr (.inl ⟨.inl ⟨hsb, h.1, h.2⟩, fun h => by rw [hsb] at h; cases h⟩)
  | true =>
    have hl : re.length ≤ 16384 := by obtain ⟨_, x, ks, hs⟩ := shapedB_iff.1 hsb; exact hs.len
    have hw := (hfit hsb w.length rfl).1
    exact bFindF_fn ra rc re hre ta tc w (by omega) (by omega) p Fz hf2 hfit
theorem longC_fn (ra : Option Addr) (rc : Nat) (re : List Nd) (hre : ∀ x ∈ re, -128 ≤ x.op ∧ x.op < 128) (ta : Option Addr) (tc : Nat) (w : List UInt8) (p Fz : Int) : HL.Fn Tryd.prog 8 [.agg [.slice ra re.length rc, .slice ta w.length tc, .int .i64 p, .int .i64 Fz].toArray] (fun W => Rd En W (.slice ra re.length rc) re ∧ Rd Eb W (.slice ta w.length tc) w) [] (fun v _ => ∃ b, v = .bool b ∧ (b = false → re.length ≤ 2147483647 ∧ w.length ≤ 2147483647)) := by
  refine fn_of Tryd.func8 rfl rfl rfl fun w0 hw => ?_
  have hsl := hw.1.sl
  have htl := hw.2.sl
  refine cR fun _ hK1 => ?_; refine o_box rfl rfl rfl fun b1 => ?_; refine oA (oZ hK1 (cR fun _ hK2 => ?_)); refine oS sF ?_; refine oS sL ?_; refine o_callP (beyond_fn ra rc re hre) rfl rfl rfl (fun _ st => (RdK.old0 hw.1).out _ st) (fun v5 hv5 => ?_)
  obtain ⟨c5, rfl⟩ := hv5
  cases c5
  ·refine oM ?_; refine oY ?_; refine oS sF ?_; refine oY ?_; refine oS sL ?_; refine oY ?_; refine oS sC ?_; refine oY ?_; refine o_callP (longN_fn re.length) rfl rfl rfl (fun _ _ => trivial) (fun v10 hv10 => ?_); subst hv10
   cases hl10 : decide ((re.length : Int) > 2147483647)
   ·have hl10 := of_decide_eq_false hl10
    refine oS sP (oM ?_); refine oY ?_; refine oS sF ?_; refine oY ?_; refine oS sL ?_; refine oY ?_; refine oS sC ?_; refine oY ?_; refine o_callP (longN_fn w.length) rfl rfl rfl (fun _ _ => trivial) (fun v16 hv16 => ?_); subst hv16
    cases hl16 : decide ((w.length : Int) > 2147483647)
    ·have hl16 := of_decide_eq_false hl16
     refine oS sP (oA (oZ hK2 (c_ret ?_))); refine ?_; exact xR rfl rfl (⟨_, rfl, fun _ => ⟨by omega, by omega⟩⟩)
    ·refine oS sP (oA (oZ hK2 (c_ret ?_))); refine ?_; exact xR rfl rfl (⟨_, rfl, fun h => by cases h⟩)
   ·refine oS sP (oM ?_); refine oN ?_; refine oN ?_; refine oN ?_; refine oN ?_; refine oS sT (oA (oZ hK2 (c_ret ?_))); refine ?_; exact xR rfl rfl (⟨_, rfl, fun h => by cases h⟩)
  ·refine oM ?_; refine oN ?_; refine oN ?_; refine oN ?_; refine oN ?_; refine oS sT (oM ?_); refine oN ?_; refine oN ?_; refine oN ?_; refine oN ?_; refine oS sT (oA (oZ hK2 (c_ret ?_))); refine ?_; exact xR rfl rfl (⟨_, rfl, fun h => by cases h⟩)
theorem heavyC_fn (ra : Option Addr) (rc : Nat) (re : List Nd) (hre : ∀ x ∈ re, -128 ≤ x.op ∧ x.op < 128) (ta : Option Addr) (tc : Nat) (w : List UInt8) (p Fz : Int) : HL.Fn Tryd.prog 14 [.agg [.slice ra re.length rc, .slice ta w.length tc, .int .i64 p, .int .i64 Fz].toArray] (fun W => Rd En W (.slice ra re.length rc) re ∧ Rd Eb W (.slice ta w.length tc) w) [] (fun v _ => ∃ b, v = .bool b ∧ (b = false → shapedB re = true → Fits re w.length)) := by
  refine fn_of Tryd.func14 rfl rfl rfl fun w0 hw => ?_
  have hsl := hw.1.sl
  have htl := hw.2.sl
  refine cR fun _ hK1 => ?_; refine o_box rfl rfl rfl fun b1 => ?_; refine oA (oZ hK1 (cR fun _ hK2 => ?_)); refine oS sF ?_; refine oS sL ?_; refine oS sF ?_; refine oS sL ?_; refine oS sC ?_; refine o_callP (costlyV_fn ra rc re hre w.length) rfl rfl rfl (fun _ st => (RdK.old0 hw.1).out _ st) (fun v8 ⟨cb, hv8, hF⟩ => ?_); subst hv8
  refine oA (oZ hK2 (c_ret ?_)); refine ?_; exact xR rfl rfl (⟨_, rfl, fun h1 h2 => hF h1 h2 (by omega)⟩)
set_option maxHeartbeats 1000000 in
theorem right_fn (la : Option Addr) (lc : Nat) (L : List Sp) (b : Bool) (e : Int) (ra : Option Addr) (rc : Nat) (re : List Nd) (hre : ∀ x ∈ re, -128 ≤ x.op ∧ x.op < 128) (ta : Option Addr) (tc : Nat) (w : List UInt8) (p Fz : Int) (hfit : shapedB re = true → Fits re w.length) (hR : FR re w p Fz e b L) : HL.Fn Tryd.prog 20 [.slice la L.length lc, .bool b, .int .i64 e, .agg [.slice ra re.length rc, .slice ta w.length tc, .int .i64 p, .int .i64 Fz].toArray] (fun W => Rd Esp W (.slice la L.length lc) L ∧ Rd En W (.slice ra re.length rc) re ∧ Rd Eb W (.slice ta w.length tc) w) [] (fun v _ => v = .bool true) := by
  refine fn_of Tryd.func20 rfl rfl rfl fun w0 hw => ?_
  have hLs := hw.1.sl
  have hsl := hw.2.1.sl
  have htl := hw.2.2.sl
  have htc := htl.le
  refine cR fun _ hK1 => ?_; refine o_box rfl rfl rfl fun b7 => ?_; refine oA (oZ hK1 (c_seq fun _ hK2 => ?_)); refine cR fun _ hK3 => ?_; refine oM ?_
  by_cases h52 : e = 52
  ·subst h52
   obtain ⟨rfl, hL0, _, hF0, _⟩ := hR.dry
   have hl0 : L.length = 0 := by rw [hL0]; rfl
   refine oS (eqT (h := rfl)) ?_; refine oZ hK3 ?_; refine cT (c_seq fun _ hK4 => ?_); refine c_drawE ([(b7, .cells [.slice ra re.length rc, .slice ta w.length tc, .int .i64 p, .int .i64 Fz].toArray 25 (0, 0))]) (fun i => false) ?_; refine eK 0 rfl sF ?_; refine eK 1 rfl sL ?_; refine eK 2 rfl geT ?_; refine eK 3 rfl sM ?_; refine eG 4 rfl sF ?_; refine eG 5 rfl sL ?_; refine eG 6 rfl sF ?_; refine eG 7 rfl sL ?_; refine eG 8 rfl sF ?_; refine eG 9 rfl sL ?_; refine eG 10 rfl sC (eO 11 rfl ?_); refine oY ?_; refine o_callP (rEnough_fn ra rc re hre w.length (by omega)) rfl rfl rfl (fun _ st => (RdK.old0 hw.2.1).out _ st) (fun v25 hv25 => ?_)
   obtain ⟨k, rfl, hk⟩ := hR.en hv25
   refine oX ?_; refine eG 12 rfl lsT ?_; refine eK 13 rfl sT ?_; refine eK 14 rfl sM ?_; refine eG 15 rfl sM ?_; refine eG 16 rfl (step_cast (v' := .bool true) (s_not rfl) rfl) ?_; refine eK 17 rfl sT ?_; refine eK 18 rfl sM ?_; refine eG 19 rfl sM ?_; refine eG 20 rfl sC ?_; refine eG 21 rfl eqT ?_; refine eK 22 rfl sT ?_; refine eK 23 rfl sA (eZ hK4 (c_ret ?_)); refine x_then_ret (?_); exact xR rfl rfl (rfl)
  ·refine oS (eqF (h := h52)) ?_; refine oZ hK3 ?_; refine cFZ hK2 (cR fun _ hK5 => ?_); refine oS sF ?_; refine oS sL ?_; refine oS sF ?_; refine oS sL ?_; refine oS sF ?_; refine oS sL ?_; refine oS sF ?_; refine oS sL ?_; refine o_call (rFind11_fn ra rc re hre ta tc w p Fz hfit) rfl rfl rfl (by exact .nil) (fun _ st => ⟨(RdK.old0 hw.2.1).out _ st, (RdK.old0 hw.2.2).out _ st⟩) (fun v46 S46 hv46 => ?_)
   obtain ⟨a46, c46, hq46, hO46⟩ := hR.same h52 hv46
   subst hq46; refine oM ?_; refine oS sE ?_; refine oS sE ?_; refine oS sE (oA (oA (oA (oZ hK5 (cR fun _ hK6 => ?_))))); refine oM (oM ?_); refine oS (eqT (h := rfl)) ?_; refine oM ?_; refine oY (oM ?_); refine oY (oM ?_); refine oY ?_; refine oS (step_cast (v' := .bool true) (s_eql_bool rfl rfl) (by cases b <;> rfl)) ?_; refine oS sT (oM ?_); refine oY (oM ?_); refine oY (oM ?_); refine oY ?_; refine o_callP (eqSpans_fn la a46 lc c46 L L) rfl rfl rfl (fun _ st => ⟨(RdK.old0 hw.1).out _ st, (hO46.rdk hiA).out _ st⟩) (fun v61 hv61 => ?_)
   rw [decide_eq_true rfl] at hv61
   subst hv61; refine oS sT (oA (oZ hK6 (c_ret ?_))); refine ?_; exact xR rfl rfl (rfl)
end Go.Proofs.YtloepfcndglmmaaDoor
namespace Go.Proofs.YtloepfcndglmmaaDoor
open Go Go.HL Go.Proofs
theorem emA {p : Prop} (h : p := by
   refine fn_of hF rfl rfl rfl fun w0 hw => ?_; refine cR fun _ hK1 => ?_; refine oA (oZ hK1 (c_seq fun _ hK2 => ?_)); refine cR fun _ hK3 => ?_; refine oA (oZ hK3 (c_block ?_)); refine c_loopB (fun (k : Nat) => k = 0) (fun (k : Nat) => [(3, .int .i64 k)]) [(0, _), (2, _)] (fun (k : Nat) => []) (fun (k : Nat) => k) 0 rfl sbA sbA hzB ?_
   rintro k hk
   subst hk; refine c_seq fun _ hK4 => ?_; refine cR fun _ hK5 => ?_; refine oM (oM ?_); refine oS sN ?_; refine oS sF ?_; refine oS (s_ld rfl ((RdPK.old0 hw).cel hb rfl)) ?_; refine oS sC ?_; refine oS (s_lss_f rfl rfl (by decide)) ?_; refine oZ hK5 ?_; refine cF ?_; refine c_exit ?_; refine x_then_exit (x_then_exit (x_block_exit (xZ hK2 (cR fun _ hK6 => ?_)))); refine oA (oA (oZ hK6 (c_seq fun _ hK7 => ?_))); refine cR fun _ hK8 => ?_; refine oA (oZ hK8 ?_)
   refine c_block ?_; refine c_loopB (fun (k : Nat) => k = 0) (fun (k : Nat) => [(7, .int .i64 k), (6, .slice none 0 0), (5, .slice none 0 0)]) [(0, _), (2, _)] (fun (k : Nat) => []) (fun (k : Nat) => k) 0 rfl sbA sbA hzB ?_
   rintro k hk
   subst hk; refine c_seq fun _ hK9 => ?_; refine cR fun _ hK10 => ?_; refine oM (oM ?_); refine oS sN ?_; refine oS sF ?_; refine oS (s_ld rfl ((RdPK.old0 hw).cel hb rfl)) ?_; refine oS sC ?_; refine oS (s_lss_f rfl rfl (by decide)) ?_; refine oZ hK10 ?_; refine cF ?_; refine c_exit ?_; refine x_then_exit (x_then_exit (x_block_exit (xZ hK7 (c_seq fun _ hK11 => ?_)))); refine cR fun _ hK12 => ?_; refine oA (oZ hK12 (c_block ?_))
   refine c_loopB (fun (k : Nat) => k = 0) (fun (k : Nat) => [(10, .int .i64 k)]) [(0, _), (5, _), (6, _)] (fun (k : Nat) => []) (fun (k : Nat) => k) 0 rfl sbA sbA hzB ?_
   rintro k hk
   subst hk; refine c_seq fun _ hK13 => ?_; refine cR fun _ hK14 => ?_; refine oM (oM ?_); refine oS sC ?_; refine oS (s_lss_f rfl rfl (by decide)) ?_; refine oZ hK14 ?_; refine cF ?_; refine c_exit ?_; refine x_then_exit (x_then_exit (x_block_exit (xZ hK11 (cR fun _ hK15 => ?_)))); refine oA (oZ hK15 (c_ret ?_)); refine ?_; exact xR rfl rfl (rfl)) : p := h
theorem apartBytes0_fn (b : Nat) (cs : List Value) (hb : cs[0]? = some (.slice none 0 0)) : HL.Fn Tryd.prog 54 [.pointer (some ⟨b, 0, none⟩)] (fun w => RdP w b 0 cs) [] (fun v _ => v = .bool true) :=
  have hF := Tryd.func54
  emA
theorem apartInts0_fn (b : Nat) (cs : List Value) (hb : cs[1]? = some (.slice none 0 0)) : HL.Fn Tryd.prog 55 [.pointer (some ⟨b, 0, none⟩)] (fun w => RdP w b 0 cs) [] (fun v _ => v = .bool true) :=
  have hF := Tryd.func55
  emA
theorem apartBools0_fn (b : Nat) (cs : List Value) (hb : cs[2]? = some (.slice none 0 0)) : HL.Fn Tryd.prog 56 [.pointer (some ⟨b, 0, none⟩)] (fun w => RdP w b 0 cs) [] (fun v _ => v = .bool true) :=
  have hF := Tryd.func56
  emA
theorem apartTexts0_fn (b : Nat) (cs : List Value) (hb : cs[3]? = some (.slice none 0 0)) : HL.Fn Tryd.prog 57 [.pointer (some ⟨b, 0, none⟩)] (fun w => RdP w b 0 cs) [] (fun v _ => v = .bool true) :=
  have hF := Tryd.func57
  emA
theorem apartMarks0_fn (b : Nat) (cs : List Value) (hb : cs[4]? = some (.slice none 0 0)) : HL.Fn Tryd.prog 58 [.pointer (some ⟨b, 0, none⟩)] (fun w => RdP w b 0 cs) [] (fun v _ => v = .bool true) :=
  have hF := Tryd.func58
  emA
theorem apartRuns0_fn (b : Nat) (cs : List Value) (hb : cs[6]? = some (.slice none 0 0)) : HL.Fn Tryd.prog 60 [.pointer (some ⟨b, 0, none⟩)] (fun w => RdP w b 0 cs) [] (fun v _ => v = .bool true) :=
  have hF := Tryd.func60
  emA
theorem apartClasses0_fn (b : Nat) (cs : List Value) (hb : cs[7]? = some (.slice none 0 0)) : HL.Fn Tryd.prog 61 [.pointer (some ⟨b, 0, none⟩)] (fun w => RdP w b 0 cs) [] (fun v _ => v = .bool true) :=
  have hF := Tryd.func61
  emA
theorem apartInstrs0_fn (b : Nat) (cs : List Value) (hb : cs[9]? = some (.slice none 0 0)) : HL.Fn Tryd.prog 63 [.pointer (some ⟨b, 0, none⟩)] (fun w => RdP w b 0 cs) [] (fun v _ => v = .bool true) :=
  have hF := Tryd.func63
  emA
theorem apartFaults0_fn (b : Nat) (cs : List Value) (hb : cs[10]? = some (.slice none 0 0)) : HL.Fn Tryd.prog 64 [.pointer (some ⟨b, 0, none⟩)] (fun w => RdP w b 0 cs) [] (fun v _ => v = .bool true) :=
  have hF := Tryd.func64
  emA
theorem apartNotes0_fn (b : Nat) (cs : List Value) (hb : cs[11]? = some (.slice none 0 0)) : HL.Fn Tryd.prog 65 [.pointer (some ⟨b, 0, none⟩)] (fun w => RdP w b 0 cs) [] (fun v _ => v = .bool true) :=
  have hF := Tryd.func65
  emA
theorem apartParts0_fn (b : Nat) (cs : List Value) (hb : cs[12]? = some (.slice none 0 0)) : HL.Fn Tryd.prog 66 [.pointer (some ⟨b, 0, none⟩)] (fun w => RdP w b 0 cs) [] (fun v _ => v = .bool true) :=
  have hF := Tryd.func66
  emA
theorem apartRows0_fn (b : Nat) (cs : List Value) (hb : cs[13]? = some (.slice none 0 0)) : HL.Fn Tryd.prog 67 [.pointer (some ⟨b, 0, none⟩)] (fun w => RdP w b 0 cs) [] (fun v _ => v = .bool true) :=
  have hF := Tryd.func67
  emA
theorem apartIntss0_fn (b : Nat) (cs : List Value) (hb : cs[14]? = some (.slice none 0 0)) : HL.Fn Tryd.prog 68 [.pointer (some ⟨b, 0, none⟩)] (fun w => RdP w b 0 cs) [] (fun v _ => v = .bool true) :=
  have hF := Tryd.func68
  emA
theorem apartSpanss0_fn (b : Nat) (cs : List Value) (hb : cs[15]? = some (.slice none 0 0)) : HL.Fn Tryd.prog 69 [.pointer (some ⟨b, 0, none⟩)] (fun w => RdP w b 0 cs) [] (fun v _ => v = .bool true) :=
  have hF := Tryd.func69
  emA
theorem apartPieces0_fn (b : Nat) (cs : List Value) (hb : cs[16]? = some (.slice none 0 0)) : HL.Fn Tryd.prog 70 [.pointer (some ⟨b, 0, none⟩)] (fun w => RdP w b 0 cs) [] (fun v _ => v = .bool true) :=
  have hF := Tryd.func70
  emA
theorem apartFiles0_fn (b : Nat) (cs : List Value) (hb : cs[17]? = some (.slice none 0 0)) : HL.Fn Tryd.prog 71 [.pointer (some ⟨b, 0, none⟩)] (fun w => RdP w b 0 cs) [] (fun v _ => v = .bool true) :=
  have hF := Tryd.func71
  emA
theorem apartCmds0_fn (b : Nat) (cs : List Value) (hb : cs[18]? = some (.slice none 0 0)) : HL.Fn Tryd.prog 72 [.pointer (some ⟨b, 0, none⟩)] (fun w => RdP w b 0 cs) [] (fun v _ => v = .bool true) :=
  have hF := Tryd.func72
  emA
end Go.Proofs.YtloepfcndglmmaaDoor
namespace Go.HL
open Go Go.RowKit Go.ChangeShapes Go.WideShapes Go.ChangeAt
section
variable {α : Type} {E : α → List Value} {k : Nat} {T : TypeId}
def OwnAt (E : α → List Value) (k : Nat) (T : TypeId) (v : Value) (xs : List α) (G : Hp) : Prop := ∃ A S0 B, G = A ++ (S0 ++ B) ∧ OwnS E k T v xs S0
theorem OwnAt.rds [Enc E k] {v : Value} {xs : List α} {G : Hp} (h : OwnAt E k T v xs G) : RdS E v xs G := by
  obtain ⟨A, S0, B, rfl, h⟩ := h
  exact h.rds.mono fun p hp => HIn.appR p (HIn.appL p hp)
theorem OwnAt.left {v : Value} {xs : List α} {G R : Hp} (h : OwnAt E k T v xs G) : OwnAt E k T v xs (R ++ G) := by
  obtain ⟨A, S0, B, rfl, h⟩ := h
  exact ⟨R ++ A, S0, B, by rw [List.append_assoc], h⟩
theorem OwnAt.right {v : Value} {xs : List α} {G R : Hp} (h : OwnAt E k T v xs G) : OwnAt E k T v xs (G ++ R) := by
  obtain ⟨A, S0, B, rfl, h⟩ := h
  exact ⟨A, S0, B ++ R, by simp only [List.append_assoc], h⟩
structure Keep2 (E : α → List Value) (k : Nat) (T : TypeId) (v0 : Value) (xs0 : List α) (v : Value) (xs : List α) (S G : Hp) : Prop where
  own : OwnS E k T v xs S
  old : OwnAt E k T v0 xs0 G ∨ ∃ a n0 n c, v0 = .slice a n0 c ∧ v = .slice a n c ∧ xs0 = xs.take n0 ∧ n0 ≤ n
theorem Keep2.start [_he : Enc E k] {xs : List α} {v : Value} {S : Hp} (h : OwnS E k T v xs S) : Keep2 E k T v xs v xs S [] := by
  obtain ⟨a, c, e, _⟩ := h.sl.out
  subst e
  exact ⟨h, .inr ⟨a, _, _, c, rfl, rfl, (List.take_length).symm, Nat.le_refl _⟩⟩
theorem Keep2.at_ [he : Enc E k] {v0 v : Value} {xs0 xs : List α} {S G : Hp} (h : Keep2 E k T v0 xs0 v xs S G) : OwnAt E k T v0 xs0 (S ++ G) := by
  rcases h.old with h1 | ⟨a, n0, n, c, rfl, rfl, rfl, hn⟩
  · exact h1.left
  · exact ⟨[], S, G, rfl, h.own.pre n0 hn⟩
theorem Keep2.rds [he : Enc E k] {v0 v : Value} {xs0 xs : List α} {S G : Hp} (h : Keep2 E k T v0 xs0 v xs S G) : RdS E v0 xs0 (S ++ G) := h.at_.rds
theorem Keep2.app [he : Enc E k] {v0 v : Value} {xs0 xs ys : List α} {S G S' G' : Hp} {a : Option Addr} {c : Nat} (h : Keep2 E k T v0 xs0 v xs S G) (ho : OwnS E k T (.slice a (xs ++ ys).length c) (xs ++ ys) S') (hG : (G' = [] ∧ ∃ n, v = .slice a n c) ∨ G' = S) :
    Keep2 E k T v0 xs0 (.slice a (xs ++ ys).length c) (xs ++ ys) S' (G' ++ G) := by
  refine ⟨ho, ?_⟩
  rcases hG with ⟨rfl, n, rfl⟩ | rfl
  · rcases h.old with h1 | ⟨a', n0, n', c', rfl, e, rfl, hn⟩
    · exact .inl h1
    · simp only [Value.slice.injEq] at e
      obtain ⟨rfl, rfl, rfl⟩ := e
      obtain ⟨a2, c2, e2, _⟩ := h.own.sl.out
      simp only [Value.slice.injEq] at e2
      obtain ⟨-, rfl, -⟩ := e2
      exact .inr ⟨a, n0, _, c, rfl, rfl, by rw [List.take_append_of_le_length hn], by simp; omega⟩
  · exact .inl h.at_
theorem Keep2.more {v0 v : Value} {xs0 xs : List α} {S G : Hp} (h : Keep2 E k T v0 xs0 v xs S []) (_hG : HIn [] G) : Keep2 E k T v0 xs0 v xs S G := ⟨h.own, h.old.imp (fun ⟨A, S0, B, e, ho⟩ => by
  have h1 := List.append_eq_nil_iff.1 e.symm
  have h2 := List.append_eq_nil_iff.1 h1.2
  obtain ⟨rfl, rfl⟩ := h2
  exact ⟨[], [], G, rfl, ho⟩) id⟩
structure Done2 (E : α → List Value) (k : Nat) (T : TypeId) (f : Nat → Nat → α) (sls ones mores : List (Sl α)) (G : Hp) (n : Nat) : Prop where
  d : Done E f sls ones mores G n
  at_ : ∀ j s, j < n → sls[j]? = some s → OwnAt E k T s.v (mkL f j s.xs.length) G
theorem Done2.zero {f : Nat → Nat → α} {sls ones mores : List (Sl α)} {G : Hp} : Done2 E k T f sls ones mores G 0 := ⟨.zero, fun _ _ h => by omega⟩
theorem Done2.out {f : Nat → Nat → α} {sls ones mores : List (Sl α)} {G : Hp} {n : Nat} (h : Done2 E k T f sls ones mores G n) : ∀ j, j < n → ∃ s o m, sls[j]? = some s ∧ ones[j]? = some o ∧ mores[j]? = some m ∧ o.xs = mkL f j (s.xs.length + 1) ∧ m.xs = mkL f j (s.xs.length + 70) ∧ IsSl s.v s.xs.length ∧ IsSl o.v o.xs.length ∧ IsSl m.v m.xs.length ∧ RdS E s.v (mkL f j s.xs.length) G ∧ RdS E o.v o.xs G ∧ RdS E m.v m.xs G := h.d.out
theorem Done2.step {f : Nat → Nat → α} {sls ones mores : List (Sl α)} {G G' : Hp} {n : Nat} {s o m : Sl α} (h : Done2 E k T f sls ones mores G n) (h1 : ones.length = n) (h2 : mores.length = n) (hs : sls[n]? = some s)
    (ho : o.xs = mkL f n (s.xs.length + 1)) (hm : m.xs = mkL f n (s.xs.length + 70)) (i1 : IsSl s.v s.xs.length) (i2 : IsSl o.v o.xs.length) (i3 : IsSl m.v m.xs.length) (r1 : RdS E s.v (mkL f n s.xs.length) G') (r2 : RdS E o.v o.xs G') (r3 : RdS E m.v m.xs G') (ra : OwnAt E k T s.v (mkL f n s.xs.length) G') : Done2 E k T f sls (ones ++ [o]) (mores ++ [m]) (G' ++ G) (n + 1) := by
  refine ⟨h.d.step h1 h2 hs ho hm i1 i2 i3 r1 r2 r3, fun j s' hj hs' => ?_⟩
  by_cases e : j = n
  · subst e
    rw [hs] at hs'; cases hs'
    exact ra.right
  · exact (h.at_ j s' (by omega) hs').left
end
end Go.HL
