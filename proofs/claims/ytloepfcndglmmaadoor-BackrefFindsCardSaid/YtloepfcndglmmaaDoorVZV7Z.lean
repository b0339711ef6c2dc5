/- Part of the proofs over this seat: see the text that holds the theorem. Conditions: each theorem bears its own. -/
import Derived.Test.YtloepfcndglmmaaDoorHTZ
import Derived.Test.YtloepfcndglmmaaDoorVZV5Z
import Derived.Test.YtloepfcndglmmaaDoorMT23Z
import Derived.Test.YtloepfcndglmmaaDoorBT1Z
import Derived.Test.YtloepfcndglmmaaDoorVZN3Z
import Derived.Test.YtloepfcndglmmaaDoorBX4Z
import Derived.Test.YtloepfcndglmmaaDoorBF8Z
import Derived.Test.YtloepfcndglmmaaDoorHM2Z
import Derived.Test.YtloepfcndglmmaaDoorBS7Z
import Derived.Test.YtloepfcndglmmaaDoorVA1Z
namespace Go.Proofs.YtloepfcndglmmaaDoor
open Go Go.HL Go.Proofs Go.HL.Kl Go.HL.Kl.Mc Go.HL.Kl.Mc.AskE
theorem row_allV (K : TalE) (hK : K.ok) (L : Nat) (hN : K.NodeV L) (f : F) : K.RowV L f := by
  obtain ⟨n, hn⟩ : ∃ n, f.size = n := ⟨_, rfl⟩
  induction n using Nat.strongRecOn generalizing f with
  | ind n ih => exact fun at_ i1 hp i j hij hjn c Pool hc left h0 hL h5 => row_stepV K hK L hN f (fun g hg => ih g.size (by omega) g rfl) at_ i1 hp i j hij hjn c Pool hc left h0 hL h5
theorem tally_allV (K : TalE) (hK : K.ok) : ∀ L, K.NodeV L ∧ K.RoundsV L
  | 0 => ⟨fun _ _ _ _ _ _ _ _ _ _ _ _ left h0 hL _ => absurd hL (by omega), fun _ _ _ _ _ _ _ _ _ _ _ _ _ _ _ _ left h0 hL _ _ => absurd hL (by omega)⟩
  | L + 1 => by
    obtain ⟨hN, hRo⟩ := tally_allV K hK L
    exact ⟨fun x ks at_ i1 hp i j hij hjn c Pool hc left h0 hL h5 => node_stepV K hK L hN (row_allV K hK L hN) hRo x ks at_ i1 hp i j hij hjn c Pool hc left h0 (by omega) h5,
      fun x y js at_ i1 h6 hp had hhd i j hij hjn c Pool hc left h0 hL h5 hhl => rounds_stepV K hK L hN hRo x y js at_ i1 h6 hp had hhd i j hij hjn c Pool hc left h0 (by omega) h5 hhl⟩
def Fits (re : List Nd) (n : Int) : Prop := ∀ m : Nat, n = m → m ≤ 60 ∧ ∃ x ks, Shp re x ks ∧ LAcc m x ks (List.replicate (gcn re) noS) (prs m (m + 1)) 262144
set_option maxHeartbeats 4000000 in
theorem lookedV_fn (ra : Option Addr) (rc : Nat) (re : List Nd) (hre : ∀ x ∈ re, -128 ≤ x.op ∧ x.op < 128) (n : Int) : HL.Fn Tryd.prog 49 [.slice ra re.length rc, .int .i64 n] (fun W => Rd En W (.slice ra re.length rc) re) [] (fun v _ => ∃ k : Int, v = .int .i64 k ∧ (shapedB re = true → 0 ≤ n → k ≤ 262144 → Fits re n)) := by
  refine fn_of Tryd.func49 rfl rfl rfl fun w0 hw => ?_
  have hsl := hw.sl
  have hbl := hsl.le
  refine cR fun _ hK1 => ?_; refine oA (oZ hK1 (c_seq fun _ hK2 => ?_)); refine cR fun _ hK3 => ?_; refine oM ?_; refine o_callP (rShaped_fn ra rc re hre) rfl rfl rfl (fun _ st => (RdK.old0 hw).out _ st) (fun v15 hv15 => ?_); subst hv15
  cases hsb : shapedB re
  ·refine oS (s_not rfl) ?_; refine oM ?_; refine oN ?_; refine oN ?_; refine oS sT (oZ hK3 ?_); refine cT (cR fun _ hK4 => ?_); refine oA (oZ hK4 (c_ret ?_)); refine x_then_ret (?_); exact xR rfl rfl (⟨_, rfl, fun h => absurd h (by rw [hsb]; decide)⟩)
  ·obtain ⟨_, x, ks, hS⟩ := shapedB_iff.1 hsb
   have hroot : Part re (.nd x ks .nil) 0 re.length := hS.part
   have hlen := hS.len
   have hgc : gcn re ≤ re.length := List.countP_le_length
   refine oS (s_not rfl) ?_; refine oM ?_; refine oY (oM ?_); refine oY ?_
   by_cases hn0 : n < 0
   ·refine oS lsT ?_; refine oS sP (oZ hK3 ?_); refine cT (cR fun _ hK5 => ?_); refine oA (oZ hK5 (c_ret ?_)); refine x_then_ret (?_); exact xR rfl rfl (⟨_, rfl, fun _ h => absurd h (by omega)⟩)
   ·obtain ⟨n, rfl⟩ : ∃ m : Nat, n = m := ⟨n.toNat, by omega⟩
    refine oS lsF ?_; refine oS sP (oZ hK3 ?_); refine cFZ hK2 (c_seq fun _ hK6 => ?_); refine cR fun _ hK7 => ?_; refine oM ?_
    by_cases hn60 : (n : Int) > 60
    ·refine oS gtT (oZ hK7 ?_); refine cT (cR fun _ hK8 => ?_); refine oA (oZ hK8 (c_ret ?_)); refine x_then_ret (?_); exact xR rfl rfl (⟨_, rfl, fun _ _ h => absurd h (by decide)⟩)
    ·refine oS gtF (oZ hK7 ?_); refine cFZ hK6 (cR fun _ hK9 => ?_); refine oM (oM ?_); refine oS (step_cast (v' := .agg [.slice ra re.length rc, .int .i64 (n : Nat), .slice none 0 0, .int .i64 262144].toArray) (s_build (cs := [_, _, _, _]) (vs := [_, _, _]) rfl rfl (.cons rfl rfl rfl rfl rfl (.cons rfl rfl rfl rfl rfl (.cons rfl rfl rfl rfl rfl .nil)))) rfl) ?_; refine o_box rfl rfl rfl fun b26 => ?_; refine oA (oZ hK9 (cR fun _ hK10 => ?_)); refine oA (oZ hK10 (c_seq fun _ hK11 => ?_)); refine cR fun _ hK12 => ?_; refine oA (oZ hK12 (c_block ?_)); refine c_loop5 (fun (q : Nat) (ha : Option Addr) (hc : Nat) (hl : List Nat) (Sh : Hp) => q ≤ re.length ∧ BehI re hl q ∧ OwnS Eix 1 3 (.slice ha hl.length hc) hl Sh) (fun (q : Nat) (ha : Option Addr) (hc : Nat) (hl : List Nat) (Sh : Hp) => [(7, .int .i64 q), (6, .int .i64 (gcn (re.take q) : Nat))]) [(0, _), (1, _), (4, _), (5, _)] (fun (q : Nat) (ha : Option Addr) (hc : Nat) (hl : List Nat) (Sh : Hp) => (b26, .cells [.slice ra re.length rc, .int .i64 (n : Nat), .slice ha hl.length hc, .int .i64 262144].toArray 144 (0, 0)) :: Sh) (fun (q : Nat) (ha : Option Addr) (hc : Nat) (hl : List Nat) (Sh : Hp) => re.length - q) 0 none 0 [] [] ⟨Nat.zero_le _, BehI.nil, .nil⟩ sbA sbA hzB ?_
     rintro q ha hc hl Sh ⟨hql, hB, hOh⟩
     have hBl := hB.1
     refine c_seq fun _ hK13 => ?_; refine cR fun _ hK14 => ?_; refine oM (oM ?_); refine oS sC ?_; refine oS (s_lss rfl rfl) ?_; refine oZ hK14 ?_; refine c_if rfl (fun hq => ?_) (fun hq => ?_)
     ·obtain ⟨y, js, r, e, hp⟩ := part_at _ _ _ hroot q (Nat.zero_le _) (by omega)
      obtain ⟨hy, _, _⟩ := hp.head
      have hgt := gcn_take hy
      have hgq : gcn (re.take q) ≤ re.length := Nat.le_trans List.countP_le_length (by rw [List.length_take]; omega)
      have hyr := hre y (List.mem_of_getElem? hy)
      have hpe := hp.le
      have hpn := hp.len
      refine c_skip (xZ hK13 (c_seq fun _ hK15 => ?_)); refine c_block (cR fun _ hK16 => ?_); refine oA (oZ hK16 (cR fun _ hK17 => ?_)); refine oM (oA (oZ hK17 (c_seq fun _ hK18 => ?_))); refine c_block ?_; refine c_loop2 (fun (h : F) (k : Nat) => Part re h k (q + 1 + js.size)) (fun (h : F) (k : Nat) => [(8, .int .i64 (h.num : Nat)), (9, .int .i64 k)]) [(0, _), (1, _), (4, _), (5, _), (6, _), (7, _), (27, _), (28, _), (29, _), (30, _), (33, _)] (fun (h : F) (k : Nat) => (b26, .cells [.slice ra re.length rc, .int .i64 (n : Nat), .slice ha hl.length hc, .int .i64 262144].toArray 144 (0, 0)) :: Sh) (fun (h : F) (k : Nat) => h.size) (F.nd y js .nil) q hp.one_end sbA sbA hzB ?_
      rintro h k hph
      refine c_seq fun _ hK19 => ?_; refine cR fun _ hK20 => ?_; refine oM ?_; refine oS (s_gtr rfl rfl) ?_; refine oZ hK20 ?_; refine c_if rfl (fun hleft => ?_) (fun hleft => ?_)
      ·obtain ⟨z, a, b, rfl⟩ : ∃ z a b, h = F.nd z a b := by cases h with | nil => exact absurd hleft (by simp [F.num]) | nd z a b => exact ⟨z, a, b, rfl⟩
       obtain ⟨hz, hpa, hpb⟩ := hph.head
       have hzw : (a.num : Int) = z.kids := hph.wf.2.1
       have hhl := hph.le
       have hhn := hph.len
       have hnn := F.num_le a
       have hnb := F.num_le b
       simp only [F.size] at hhn
       have hnm : (F.nd z a b).num = b.num + 1 := rfl
       refine c_skip (xZ hK19 (c_block (cR fun _ hK21 => ?_))); refine oM ?_; refine oS sU (oM (oM ?_)); refine oS (s_idx rfl rfl hsl (by omega)) ?_; refine oS sF ?_; refine oS (s_ld rfl ((RdK.old0 hw).ld k 8 hz rfl (by decide) (by omega))) ?_; refine oS (step_cast (v' := .int .i64 ((a.app b).num : Nat)) (s_add rfl rfl (by omega)) (congrArg _ (by rw [F.num_app]; omega))) ?_; refine oA (oZ hK21 (c_region (oM ?_))); refine oS sD (oA (o_nil (x_block ?_))); exact x_then (x_inv ((a.app b), k + 1) (hpa.app hpb) (by rw [F.size_app]; simp only [F.size]; omega) sbA hzB)
      ·obtain rfl := F.num_nil (f := h) (by omega)
       have hke := hph.len
       obtain rfl : k = q + 1 + js.size := by simp only [F.size] at hke; omega
       refine c_exit ?_; refine x_then_exit (x_then_exit (x_block_exit (xZ hK18 (cR fun _ hK22 => ?_)))); refine oM (oM ?_); refine oS sN ?_; refine oS sF ?_; refine oS sL (oM ?_); refine o_bs (E := Eix) (xs := [q + 1 + js.size]) (vs := [_]) rfl rfl rfl rfl rfl (by decide) (by decide) fun b52 S52 hS52 => ?_; refine o_app hOh (hS52.rdk hiA) rfl rfl rfl rfl (by simp only [List.length_singleton]; omega) (by simp only [List.length_singleton]; omega) rfl pkA fun a53 c53 S53 hS53 => ?_; refine oS sN ?_; refine oS sF ?_; refine o_store rfl rfl rfl upA ltA rfl ?_; refine oZ hK22 (cR fun _ hK23 => ?_); refine oM (oM ?_); refine oS (s_idx rfl rfl hsl (by omega)) ?_; refine oS sF ?_; refine oS (s_ld rfl ((RdK.old0 hw).ld q 0 hy rfl (by decide) (by omega))) ?_; refine oS (s_convI rfl (by omega)) ?_
       by_cases h7 : y.op = 7
       ·rw [if_pos h7] at hgt
        refine oS (eqT (h := h7)) ?_; refine oZ hK23 ?_; refine cT (c_region (oM ?_)); refine oS (step_cast (v' := .int .i64 (gcn (re.take (q + 1)) : Nat)) (s_add rfl rfl (by omega)) (congrArg _ (by omega))) ?_; refine oA (o_nil (x_block (xZ hK15 (c_region (oM ?_))))); refine oS sD (oA (o_nil ?_)); exact xI (q + 1, a53, c53, hl ++ [q + 1 + js.size], S53) ⟨by dsimp only; omega, hB.snoc hp, hS53⟩
       ·rw [if_neg h7] at hgt
        rw [show gcn (re.take q) = gcn (re.take (q + 1)) by omega]
        refine oS (eqF (h := h7)) ?_; refine oZ hK23 ?_; refine cF (c_skip (x_block (xZ hK15 (c_region (oM ?_))))); refine oS sD (oA (o_nil ?_)); exact xI (q + 1, a53, c53, hl ++ [q + 1 + js.size], S53) ⟨by dsimp only; omega, hB.snoc hp, hS53⟩
     ·obtain rfl : q = re.length := by omega
      rw [List.take_length]
      have hK : TalE.ok (⟨b26, ra, rc, re, n, ha, hc, hl, gcn re⟩ : TalE) := ⟨hre, by dsimp only; omega, by dsimp only; omega, by dsimp only; omega, fun y hy h7 => grp_le hsb hy h7, fun y hy h8 => ref_n hsb hy h8, fun k y js r e hp => hB.2 k y js r e (by have h1 := hp.le; have h2 := hp.len; simp only [F.size] at h2; dsimp only at h1; omega) hp⟩
      refine c_exit ?_; refine x_then_exit (x_then_exit (x_block_exit (xZ hK11 (c_seq fun _ hK24 => ?_)))); refine cR fun _ hK25 => ?_; refine oA (oZ hK25 (c_block ?_)); refine c_loop2 (fun (p : Nat) (lf : Int) => p ≤ n + 1 ∧ -700000 ≤ lf ∧ lf ≤ 262144 ∧ (0 ≤ lf → LAcc n x ks (List.replicate (gcn re) noS) (prs n p) (262144 - lf))) (fun (p : Nat) (lf : Int) => [(10, .int .i64 p)]) [(1, _), (4, _), (5, _), (6, _)] (fun (p : Nat) (lf : Int) => (b26, .cells [.slice ra re.length rc, .int .i64 (n : Nat), .slice ha hl.length hc, .int .i64 lf].toArray 144 (0, 0)) :: Sh) (fun (p : Nat) (lf : Int) => n + 1 - p) 0 262144 ⟨Nat.zero_le _, by decide, by decide, fun _ => .nil (by decide)⟩ sbA sbA hzB ?_
      rintro p lf ⟨hp1, hlo, hhi, hLA⟩
      refine c_seq fun _ hK26 => ?_; refine cR fun _ hK27 => ?_; refine oM (oM ?_); refine oS (s_leq rfl rfl) ?_; refine oZ hK27 ?_; refine c_if rfl (fun hpn => ?_) (fun hpn => ?_)
      ·refine c_skip (xZ hK26 (c_seq fun _ hK28 => ?_)); refine c_block (cR fun _ hK29 => ?_); refine oM (oA (oZ hK29 (c_block ?_))); refine c_loop2 (fun (jz : Int) (lf : Int) => (p : Int) - 1 ≤ jz ∧ jz ≤ n ∧ -700000 ≤ lf ∧ lf ≤ 262144 ∧ (0 ≤ lf → LAcc n x ks (List.replicate (gcn re) noS) (prs n p ++ rowP n p (ends (jz + 1).toNat n)) (262144 - lf))) (fun (jz : Int) (lf : Int) => [(11, .int .i64 jz)]) [(1, _), (4, _), (5, _), (6, _), (10, _), (65, _), (66, _), (67, _), (70, _)] (fun (jz : Int) (lf : Int) => (b26, .cells [.slice ra re.length rc, .int .i64 (n : Nat), .slice ha hl.length hc, .int .i64 lf].toArray 144 (0, 0)) :: Sh) (fun (jz : Int) (lf : Int) => (jz + 1 - p).toNat) (n : Int) lf ⟨by omega, Int.le_refl _, hlo, hhi, fun h0 => by rw [show ((n : Int) + 1).toNat = n + 1 by omega, rowP_none, List.append_nil]; exact hLA h0⟩ sbA sbA hzB ?_
       rintro jz lf ⟨hj1, hj2, hlo, hhi, hLB⟩
       refine c_seq fun _ hK30 => ?_; refine cR fun _ hK31 => ?_; refine oM (oM ?_)
       by_cases hjp : jz ≥ (p : Int)
       ·obtain ⟨j, rfl⟩ : ∃ m : Nat, jz = m := ⟨jz.toNat, by omega⟩
        refine oS geT (oM ?_); refine oY (oM ?_); refine oY ?_; refine oS sN ?_; refine oY ?_; refine oS sF ?_; refine oY ?_; refine oS sL ?_; refine oY ?_
        by_cases hlf0 : lf ≥ 0
        ·refine oS geT ?_; refine oS sT (oZ hK31 ?_); refine cTZ hK30 (c_seq fun _ hK32 => ?_); refine c_block (cR fun _ hK33 => ?_); refine oA (oZ hK33 (c_seq fun _ hK34 => ?_)); refine cR fun _ hK35 => ?_; refine oA (oZ hK35 (c_block ?_)); refine c_loop5 (fun (k : Nat) (ac : Option Addr) (cc : Nat) (cs : List Sp) (Sc : Hp) => k ≤ gcn re ∧ cs.length = k ∧ cs = List.replicate k noS ∧ OwnS Esp 2 45 (.slice ac cs.length cc) cs Sc) (fun (k : Nat) (ac : Option Addr) (cc : Nat) (cs : List Sp) (Sc : Hp) => [(13, .int .i64 k), (12, .slice ac cs.length cc)]) [(1, _), (4, _), (5, _), (6, _), (10, _), (11, _), (65, _), (66, _), (67, _), (70, _), (71, _), (72, _), (73, _), (74, _), (75, _), (76, _), (77, _), (78, _), (79, _), (80, _)] (fun (k : Nat) (ac : Option Addr) (cc : Nat) (cs : List Sp) (Sc : Hp) => (b26, .cells [.slice ra re.length rc, .int .i64 (n : Nat), .slice ha hl.length hc, .int .i64 lf].toArray 144 (0, 0)) :: (Sh ++ Sc)) (fun (k : Nat) (ac : Option Addr) (cc : Nat) (cs : List Sp) (Sc : Hp) => gcn re - k) 0 none 0 [] [] ⟨Nat.zero_le _, rfl, rfl, .nil⟩ sbA sbA hzB ?_
         rintro k ac cc cs Sc ⟨hk, hcl, hcR, hOc⟩
         refine c_seq fun _ hK36 => ?_; refine cR fun _ hK37 => ?_; refine oM (oM ?_); refine oS (s_lss rfl rfl) ?_; refine oZ hK37 ?_; refine c_if rfl (fun hkN => ?_) (fun hkN => ?_)
         ·refine c_skip (xZ hK36 (c_seq fun _ hK38 => ?_)); refine c_block (c_region (oM ?_)); refine oS (s_build (cs := [_, _]) (vs := [_, _]) rfl rfl (.cons rfl rfl rfl rfl rfl (.cons rfl rfl rfl rfl rfl (.nil)))) ?_; refine o_bs (E := Esp) (xs := [noS]) (vs := [_]) rfl rfl rfl rfl rfl (by decide) (by decide) fun b90 S90 hS90 => ?_; refine o_app hOc (hS90.rdk hiA) rfl rfl rfl rfl (by simp only [List.length_singleton]; omega) (by simp only [List.length_singleton]; omega) rfl pkA fun a91 c91 S91 hS91 => ?_; refine oA (o_nil (x_block (xZ hK38 (c_region (oM ?_))))); refine oS sD (oA (o_nil ?_)); exact xI (k + 1, a91, c91, cs ++ [noS], S91) ⟨by dsimp only; omega, by simp [hcl], by dsimp only; rw [hcR, ← List.replicate_succ'], hS91⟩
         ·obtain rfl : k = gcn re := by omega
          have hcN : cs.length = gcn re := hcl
          refine c_exit ?_; refine x_then_exit (x_then_exit (x_block_exit (xZ hK34 (c_region (oM (oM (oM (oM ?_)))))))); refine o_call ((tally_allV (⟨b26, ra, rc, re, n, ha, hc, hl, gcn re⟩ : TalE) hK 262145).1 x ks 0 _ hroot p j (by omega) (show j ≤ n by omega) ⟨ac, cc, cs⟩ Sc ⟨hcN, hOc.sl, hOc.rds⟩ lf (by omega) (by omega) (by omega)) rfl rfl rfl ((Pick.takeC pkA pkA)) (fun _ st => ⟨(RdK.old0 hw).out _ st, St.apart_M st (by exact hiB) hw Apart.nil (by decide), (hOh.rdk hiA).out _ st, St.apart st (Pick.takeC pkA pkA) hOh hiA⟩) (fun v96 S96 ⟨a96, c96, zs96, Sz96, New96, lf96, hv96, hS96, hO96, hP96, hk96, hl96, hb96, hC96⟩ => ?_); subst hv96
          subst hS96; refine o_nil (x_block (xZ hK32 (c_region (oM ?_)))); refine oS sU (oA (o_nil ?_))
          have hLn : 0 ≤ lf96 → LAcc n x ks (List.replicate (gcn re) noS) (prs n p ++ rowP n p (ends ((j : Int) - 1 + 1).toNat n)) (262144 - lf96) := fun h0 => by
            have h1 := hLB (by omega)
            rw [show ((j : Int) + 1).toNat = j + 1 by omega] at h1
            have h2 := hC96 h0
            have hcr : cs = List.replicate (gcn re) noS := hcR
            rw [hcr] at h2
            rw [show ((j : Int) - 1 + 1).toNat = j by omega, rowP_snoc (by omega), ← List.append_assoc, show 262144 - lf96 = (262144 - lf) + (lf - lf96) by omega]
            exact h1.snoc h2
          exact x_then (x_inv ((j : Int) - 1, lf96) ⟨by dsimp only; omega, by dsimp only; omega, hb96, by dsimp only; omega, hLn⟩ (by dsimp only; omega) sbA hzB)
        ·refine oS geF ?_; refine oS sT (oZ hK31 ?_); refine cF ?_; refine c_exit ?_; refine x_then_exit (x_then_exit (x_block_exit (x_block (xZ hK28 (c_region (oM ?_)))))); refine oS sD (oA (o_nil ?_))
         have hLn : 0 ≤ lf → LAcc n x ks (List.replicate (gcn re) noS) (prs n (p + 1)) (262144 - lf) := fun h0 => by first | exact absurd h0 (by omega) | (have h1 := hLB h0; rw [prs_succ]; rw [show (jz + 1).toNat = p by omega] at h1; exact h1)
         exact xI (p + 1, lf) ⟨by dsimp only; omega, hlo, hhi, hLn⟩
       ·refine oS geF (oM ?_); refine oN ?_; refine oN ?_; refine oN ?_; refine oN ?_; refine oN ?_; refine oS sP (oZ hK31 ?_); refine cF ?_; refine c_exit ?_; refine x_then_exit (x_then_exit (x_block_exit (x_block (xZ hK28 (c_region (oM ?_)))))); refine oS sD (oA (o_nil ?_))
        have hLn : 0 ≤ lf → LAcc n x ks (List.replicate (gcn re) noS) (prs n (p + 1)) (262144 - lf) := fun h0 => by first | exact absurd h0 (by omega) | (have h1 := hLB h0; rw [prs_succ]; rw [show (jz + 1).toNat = p by omega] at h1; exact h1)
        exact xI (p + 1, lf) ⟨by dsimp only; omega, hlo, hhi, hLn⟩
      ·refine c_exit ?_; refine x_then_exit (x_then_exit (x_block_exit (xZ hK24 (cR fun _ hK39 => ?_)))); refine oM ?_; refine oS sN ?_; refine oS sF ?_; refine oS sL ?_; refine oS (s_max rfl rfl) ?_; refine oS sU (oA (oZ hK39 (c_ret ?_))); refine ?_; exact xR rfl rfl (⟨_, rfl, fun _ _ hk m hm => ⟨by omega, x, ks, hS, by obtain rfl : n = m := (by omega); have h1 := hLA (by omega); rw [show p = n + 1 by omega] at h1; exact h1.mono (by omega)⟩⟩)
theorem costlyV_fn (ra : Option Addr) (rc : Nat) (re : List Nd) (hre : ∀ x ∈ re, -128 ≤ x.op ∧ x.op < 128) (n : Int) : HL.Fn Tryd.prog 23 [.slice ra re.length rc, .int .i64 n] (fun W => Rd En W (.slice ra re.length rc) re) [] (fun v _ => ∃ b : Bool, v = .bool b ∧ (b = false → shapedB re = true → 0 ≤ n → Fits re n)) := by
  refine fn_of Tryd.func23 rfl rfl rfl fun w0 hw => ?_; refine cR fun _ hK1 => ?_; refine oA (oZ hK1 (cR fun _ hK2 => ?_)); refine oM (oM ?_); refine o_callP (lookedV_fn ra rc re hre n) rfl rfl rfl (fun _ st => (RdK.old0 hw).out _ st) (fun v7 ⟨k, hv7, hF⟩ => ?_); subst hv7
  refine oS (s_gtr rfl rfl) ?_; refine oA (oZ hK2 (c_ret ?_)); refine ?_; exact xR rfl rfl (⟨_, rfl, fun hb hs hn => hF hs hn (by have h := of_decide_eq_false hb; omega)⟩)
end Go.Proofs.YtloepfcndglmmaaDoor
namespace Go.HL.Kl.Mc
open Go Go.HL Go.HL.Kl AskE
def kin2 (K : SrE) (f : Frm) : Frm := match K.re[f.node]? with
  | none => f
  | some x => { f with kid := satK x f.kid }
theorem Dried.fs_le {K : SrE} {fs0 : List Frm} {S : SS} (h : Dried K fs0 S) : S.fs.length ≤ 3 * fs0.length := by
  obtain ⟨a, ha, hk⟩ := h.fs
  have hn := h.fv.fn
  rw [ha] at hn
  have hna : a.Nodup := (List.nodup_append.1 hn).2.1
  have hsub : ∀ g ∈ a, g ∈ (fs0.map fun f => ({ f with kid := K.bh f.kid, left := f.left - 1, fr := 0 } : Frm)) ++ fs0.map (kin2 K) := fun g hg => by
    obtain ⟨f, hf, hkin⟩ := hk g hg
    rcases hkin with rfl | ⟨x, hx, rfl⟩
    · exact List.mem_append_left _ (List.mem_map.2 ⟨f, hf, rfl⟩)
    · exact List.mem_append_right _ (List.mem_map.2 ⟨f, hf, by unfold kin2; rw [hx]⟩)
  have h1 := nodupS (g := fun _ : Frm => 1) hna hsub
  rw [const_sum, const_sum, List.length_append, List.length_map, List.length_map] at h1
  rw [ha, List.length_append]
  omega
theorem kidsN_255 {step : Nat → List Bool → Option (Nat × List Bool)} (hs : ∀ i en i' en', step i en = some (i', en') → en.length ≤ 255 → en'.length ≤ 255) :
    ∀ k i en i' en', kidsN step k i en = some (i', en') → en.length ≤ 255 → en'.length ≤ 255 := by
  intro k
  induction k with
  | zero =>
    intro i en i' en' h
    simp only [kidsN, Option.some.injEq, Prod.mk.injEq] at h
    obtain ⟨rfl, rfl⟩ := h
    exact id
  | succ k ih =>
    intro i en i' en' h h0
    simp only [kidsN] at h
    split at h
    · cases h
    · rename_i j en1 hst
      exact ih _ _ _ _ h (hs _ _ _ _ hst h0)
theorem shN_255 {re : List Nd} : ∀ f i en g i' en', shN re f i en g = some (i', en') → en.length ≤ 255 → en'.length ≤ 255 := by
  intro f
  induction f with
  | zero => intro i en g i' en' h; cases h
  | succ f ih =>
    intro i en g i' en' h h0
    simp only [shN] at h
    split at h
    · cases h
    · rename_i x hx
      split at h
      · split at h
        · cases h
        · rename_i en1 g1 hg
          split at h
          · cases h
          · rename_i i2 en2 hk
            simp only [Option.some.injEq, Prod.mk.injEq] at h
            obtain ⟨rfl, rfl⟩ := h
            have he : en1.length ≤ 255 := by
              unfold gate at hg
              split at hg
              · split at hg
                · cases hg; exact h0
                · cases hg
              split at hg
              · split at hg
                · cases hg; rename_i _ h7 hc; rw [List.length_append, List.length_singleton]; omega
                · cases hg
              · cases hg; exact h0
            have h2 := kidsN_255 (fun i en i' en' h => ih i en g1 i' en' h) _ _ _ _ _ hk he
            split
            · rw [List.length_set]; exact h2
            · exact h2
      · cases h
theorem gcn_255 {re : List Nd} (h : shapedB re = true) : gcn re ≤ 255 := by
  obtain ⟨⟨en, hsh⟩, _⟩ := shapedB_iff.1 h
  obtain ⟨_, h1, _⟩ := shN_num _ _ _ _ _ _ hsh
  have h2 := shN_255 _ _ _ _ _ _ hsh (Nat.zero_le _)
  rw [List.take_length] at h1
  simp [gcn] at h1 ⊢
  omega
theorem refsI_all {re : List Nd} : ∀ q, q ≤ re.length → ∀ k x, k < q → re[k]? = some x → x.op = 8 → x.n ∈ refsI (re.take q)
  | 0, _, _, _, h, _, _ => absurd h (Nat.not_lt_zero _)
  | q + 1, hq, k, x, hk, hx, h8 => by
    obtain ⟨y, hy⟩ : ∃ y, re[q]? = some y := ⟨_, List.getElem?_eq_getElem (by omega)⟩
    rw [refsI_take hy]
    by_cases e : k = q
    · subst e
      rw [hx] at hy; cases hy
      unfold ref1 addI
      rw [if_pos h8]
      split
      · assumption
      · simp
    · have h1 := refsI_all (re := re) q (by omega) k x (by omega) hx h8
      unfold ref1 addI
      split
      · split
        · exact h1
        · exact List.mem_append_left _ h1
      · exact h1
theorem refs_len {re : List Nd} {R : List Nat} (hn : R.Nodup) (hR : ∀ r ∈ R, ∃ x ∈ re, x.op = 8 ∧ x.n.toNat = r) : R.length ≤ (refsI re).length := by
  have hsub : ∀ r ∈ R, r ∈ (refsI re).map Int.toNat := fun r hr => by
    obtain ⟨x, hx, h8, rfl⟩ := hR r hr
    obtain ⟨k, hk⟩ := List.mem_iff_getElem?.1 hx
    have h1 := refsI_all re.length (Nat.le_refl _) k x (List.getElem?_eq_some_iff.1 hk).1 hk h8
    rw [List.take_length] at h1
    exact List.mem_map.2 ⟨_, h1, rfl⟩
  have h1 := nodupS (g := fun _ : Nat => 1) hn hsub
  rw [const_sum, const_sum, List.length_map] at h1
  omega
theorem nodup_len {R : List Nat} {N : Nat} (hn : R.Nodup) (hR : ∀ r ∈ R, r ≤ N) : R.length ≤ N + 1 := by
  have h1 := nodupS (g := fun _ : Nat => 1) hn (L := List.range (N + 1)) fun r hr => by rw [List.mem_range]; have := hR r hr; omega
  rw [const_sum, const_sum, List.length_range] at h1
  omega
theorem dry_sz {K : SrE} {S S' S2 : SS} {fs0 : List Frm} (hD : Dried K fs0 S2) (h1 : fs0.length ≤ S'.fs.length) (h2 : S2.ts.length ≤ S'.ts.length + K.cR * (S'.fs.length + 1) * (S'.wk - S.wk + 0)) (hR : K.R.length ≤ 256) (hz : S'.sz ≤ (K.cR + 2) * S'.wk) (hw : S'.wk ≤ 786432) : S2.fs.length ≤ 1000000000000 ∧ S2.ts.length ≤ 100000000000000000 := by
  have h3 := hD.fs_le
  have hc : K.cR ≤ 64 := by show (K.R.length + 3) / 4 ≤ 64; omega
  have h4 : (K.cR + 2) * S'.wk ≤ 66 * 786432 := Nat.mul_le_mul (by omega) hw
  unfold SS.sz at hz
  have h5 : K.cR * (S'.fs.length + 1) ≤ 64 * 51904513 := Nat.mul_le_mul hc (by omega)
  have h6 : K.cR * (S'.fs.length + 1) * (S'.wk - S.wk + 0) ≤ 64 * 51904513 * 786432 := Nat.mul_le_mul h5 (by omega)
  exact ⟨by omega, by omega⟩
end Go.HL.Kl.Mc
namespace Go.Proofs.YtloepfcndglmmaaDoor
open Go Go.HL Go.Proofs Go.HL.Kl Go.HL.Kl.Mc Go.HL.Kl.Mc.AskE
def C0 (re : List Nd) : Caps := List.replicate (gcn re) noS
def BNone (w : List UInt8) (x : Nd) (ks : F) (c0 : Caps) (p : Nat) : Prop := ∀ i j, p ≤ i → i ≤ j → j ≤ w.length → LF1 w x ks i j c0 = []
structure BSome (w : List UInt8) (x : Nd) (ks : F) (c0 : Caps) (p i j : Nat) (c : Caps) : Prop where
  lo : p ≤ i
  ij : i ≤ j
  hi : j ≤ w.length
  hd : (LF1 w x ks i j c0).head? = some c
  fst : ∀ i' j', p ≤ i' → i' < i → i' ≤ j' → j' ≤ w.length → LF1 w x ks i' j' c0 = []
  lng : ∀ j', j < j' → j' ≤ w.length → LF1 w x ks i j' c0 = []
  len : c.length = c0.length
  ok : ∀ s ∈ c, s = noS ∨ (0 ≤ s.fr ∧ s.fr ≤ s.to ∧ s.to ≤ w.length)
def BkP (re : List Nd) (w : List UInt8) (p : Int) (v : Value) (S' : Hp) : Prop :=
  (shapedB re = false ∧ v = .tuple #[.slice none 0 0, .bool false, .int .i64 49] ∧ S' = []) ∨ (shapedB re = true ∧ ¬ (0 ≤ p ∧ p ≤ w.length) ∧ v = .tuple #[.slice none 0 0, .bool false, .int .i64 1] ∧ S' = []) ∨
  (shapedB re = true ∧ ∃ m : Nat, p = m ∧ m ≤ w.length ∧ ∃ x ks, Shp re x ks ∧ ((BNone w x ks (C0 re) m ∧ v = .tuple #[.slice none 0 0, .bool false, .int .i64 0] ∧ S' = []) ∨
    ∃ (i j : Nat) (c : Caps) (a : Option Addr) (cc : Nat), BSome w x ks (C0 re) m i j c ∧ v = .tuple #[.slice a (gcn re + 1) cc, .bool true, .int .i64 0] ∧ OwnS Esp 2 45 (.slice a (gcn re + 1) cc) (⟨(i : Nat), (j : Nat)⟩ :: c) S'))
def FuelOut (re : List Nd) (w : List UInt8) (p Fz : Int) (v : Value) (S' : Hp) : Prop :=
  shapedB re = true ∧ (0 ≤ p ∧ p ≤ w.length) ∧ 0 ≤ Fz ∧ v = .tuple #[.slice none 0 0, .bool false, .int .i64 52] ∧ S' = [] ∧ ∃ x ks, Shp re x ks ∧ Fz < (enN ks ((F.nd x ks .nil).weight) re w.length : Nat)
def BkF (re : List Nd) (w : List UInt8) (p Fz : Int) (v : Value) (S' : Hp) : Prop :=
  (shapedB re = true ∧ Fz < 0 ∧ v = .tuple #[.slice none 0 0, .bool false, .int .i64 1] ∧ S' = []) ∨ (BkP re w p v S' ∧ (shapedB re = true → 0 ≤ p → p ≤ w.length → 0 ≤ Fz)) ∨ FuelOut re w p Fz v S'
theorem c0_ok {K : BkE} (hN : K.N = gcn K.re) : CapOk K.sr K.N (C0 K.re) := ⟨by rw [C0, List.length_replicate, hN], fun s hs => .inl (List.eq_of_mem_replicate hs)⟩
structure QV (K : BkE) (V : SS) (rest used : Nat) : Prop where
  fin : Fin K.sr V
  inv : Inv K.sr K.N V
  cs : V.cs = noS :: C0 K.re
  wk : V.wk + rest ≤ 786432
  f1 : 786432 ≤ V.fuel + V.wk
  f2 : V.fuel ≤ 786432
  sz : V.sz ≤ (K.sr.cR + 2) * V.wk
  qb : QB K.sr V 786432 used
  fv : FV K.sr V
def QA (K : BkE) (Fz : Nat) (sz : Nat) (q : BkS) (rest m : Nat) : Prop := K.Rep q ∧ q.d = false ∧ ∃ (V : SS) (g u : Nat), q.S = V.fu g ∧ Fz + V.fuel = g + 786432 ∧ QV K V rest (u * sz) ∧ u ≤ m
theorem QA.fin {K : BkE} {Fz sz rest m : Nat} {q : BkS} (h : QA K Fz sz q rest m) : Fin K.sr q.S := by
  obtain ⟨_, _, V, g, u, e, _, hV, _⟩ := h
  rw [e]; exact ⟨hV.fin.fr, hV.fin.ch, hV.fin.sp⟩
theorem QA.fuel {K : BkE} {Fz sz rest m : Nat} {q : BkS} (h : QA K Fz sz q rest m) : q.S.fuel ≤ Fz := by
  obtain ⟨_, _, V, g, u, e, h1, hV, _⟩ := h
  have := hV.f2
  rw [e]; show g ≤ Fz; omega
theorem QA.up {K : BkE} {Fz sz rest m m' : Nat} {q : BkS} (h : QA K Fz sz q rest m) (hm : m ≤ m') : QA K Fz sz q rest m' := by
  obtain ⟨h1, h2, V, g, u, e, h3, hV, h4⟩ := h
  exact ⟨h1, h2, V, g, u, e, h3, hV, Nat.le_trans h4 hm⟩
theorem qa_start {K : BkE} {s : BkS} {Fz sz rest m : Nat} (hR : K.Rep s) (hN : K.N = gcn K.re) (hs : s.S = ⟨[], [], [], List.replicate (gcn K.re + 1) noS, Fz, 0⟩) (hd : s.d = false) (hr : rest ≤ 786432) : QA K Fz sz s rest m := by
  refine ⟨hR, hd, ⟨[], [], [], List.replicate (gcn K.re + 1) noS, 786432, 0⟩, Fz, 0, hs, rfl, ⟨⟨fun _ h => (by cases h), fun k g h => (by simp at h), fun z hz => .inl (List.eq_of_mem_replicate hz)⟩, ⟨fun k g h => (by simp at h), List.nodup_nil, fun _ h => (by cases h)⟩, List.replicate_succ, ?_, Nat.le_refl _, Nat.le_refl _, Nat.zero_le _, by rw [Nat.zero_mul]; exact QB.start rfl, ⟨fun k g h => (by simp at h), fun _ h => (by cases h), List.nodup_nil⟩⟩, Nat.zero_le _⟩
  show 0 + rest ≤ _
  omega
theorem ar_used {n W z u m : Nat} (h1 : u ≤ m) (h2 : m + 1 ≤ (n + 2) * (n + 2)) (hz : z ≤ W) : u * z + z ≤ (n + 2) * (n + 2) * W := by
  rw [← Nat.succ_mul]
  exact Nat.mul_le_mul (by omega) hz
theorem qa_step {K : BkE} (hK : K.ok) (hN : K.N = gcn K.re) (h256 : K.R.length ≤ 256) {Fz : Nat} {q : BkS} {rest k m : Nat} {x : Nd} {ks : F} (h : QA K Fz (ks.size + 1) q (k + rest) m) {e0 i j : Nat} {Z : List Caps} (hp : Part K.re (.nd x ks .nil) 0 e0) (hij : i ≤ j) (hj : j ≤ K.w.length) (hm : m + 1 ≤ (K.w.length + 2) * (K.w.length + 2)) (hc : Ct K.w.length (.node x ks i j (C0 K.re)) Z k) :
    ∃ b S' d2, EvD K.sr q.S q.d (.take 0 i j 0) b S' d2 ∧ Sz S' ∧ (∀ q' : BkS, K.Rep q' → Fin K.sr q'.S → q'.S = S' → q'.d = d2 → (d2 = true → Fz < 4611686018427387904 ∧ Fz < (F.nd x ks .nil).weight * (K.w.length + 2) ^ (2 * (ks.depth + 1) + 2 * K.R.length + 4)) ∧ (d2 = false → b = true → ∃ r, (LF1 K.w x ks i j (C0 K.re)).head? = some r ∧ CapOk K.sr K.N r ∧ q'.S.cs = noS :: r) ∧ (d2 = false → b = false → LF1 K.w x ks i j (C0 K.re) = [] ∧ QA K Fz (ks.size + 1) q' rest (m + 1))) := by
  obtain ⟨hR, hqd, V, g, u, hqS, hfu, ⟨hF, hI, hcs, hwk, hf1, hf2, hsz, hqb, hfv⟩, hum⟩ := h
  obtain ⟨b, V', hE, hI', hw', hy, hn⟩ := take_ok hK.ok hc hp hij hj (c0_ok hN) hI hcs (by omega)
  obtain ⟨g1, g2, g3⟩ := hE.grow
  have hmo := hE.mono
  have hmul : (K.sr.cR + 2) * V.wk + (K.sr.cR + 2) * (V'.wk - V.wk) = (K.sr.cR + 2) * V'.wk := by rw [← Nat.mul_add, show V.wk + (V'.wk - V.wk) = V'.wk by omega]
  have hsl : K.sr.slack (.take 0 i j 0) = 0 := rfl
  have hsz' : V'.sz ≤ (K.sr.cR + 2) * V'.wk := by omega
  have hc64 : K.sr.cR ≤ 64 := by show (K.R.length + 3) / 4 ≤ 64; omega
  have hmul2 : (K.sr.cR + 2) * V'.wk ≤ 66 * 786432 := Nat.mul_le_mul (by omega) (by omega)
  have hszV : V'.fs.length + V'.ts.length + V'.F.length ≤ 66 * 786432 := Nat.le_trans hsz' hmul2
  have hfu' := hmo.fuel
  have hzw : ks.size + 1 ≤ (F.nd x ks .nil).weight := by have := F.size_weight (F.nd x ks .nil); simp only [F.size] at this; omega
  obtain ⟨s1, s2, s3⟩ := hE.sim (Nat.le_refl _) hfv (Nat.zero_le _)
  rw [hqS, hqd]
  by_cases hen : V.fuel ≤ g + V'.fuel
  · refine ⟨b, _, false, s2 g hen, ⟨by show V'.fs.length ≤ _; omega, by show V'.ts.length ≤ _; omega⟩, fun q' hR' hF' he hd' => ⟨fun h => (by cases h), fun _ hb => ?_, fun _ hb => ?_⟩⟩
    · rw [he]; exact hy hb
    · obtain ⟨h1, h2⟩ := hn hb
      subst hb; refine ⟨h1, hR', hd', V', g + V'.fuel - V.fuel, u + 1, he, by omega, ⟨?_, hI', by rw [h2]; exact hcs, by omega, by omega, by omega, hsz', by rw [Nat.succ_mul]; exact hqb.step hp hij hj hE, s1⟩, by omega⟩
      rw [he] at hF'
      exact ⟨hF'.fr, hF'.ch, hF'.sp⟩
  · obtain ⟨b2, S2, fs0, c1, c2, c3, c4, c5, c6⟩ := s3 g (by omega)
    refine ⟨b2, S2, true, c1, dry_sz c2 c4 c5 h256 hsz' (by omega), fun q' hR' hF' he hd' => ⟨fun _ => ?_, fun h => (by cases h), fun h => (by cases h)⟩⟩
    have hB : 786432 ≤ V'.fuel + (F.nd x ks .nil).weight * (K.w.length + 2) ^ (2 * (ks.depth + 1) + 2 * K.R.length + 4) := hqb.bound hp hij hj hE (ar_used hum hm hzw)
    exact ⟨by omega, by omega⟩
theorem qa_out {K : BkE} {x : Nd} {ks : F} {Fz : Nat} (hR : K.R.length ≤ (refsI K.re).length) (hF : Fz < 4611686018427387904) (h : Fz < (F.nd x ks .nil).weight * (K.w.length + 2) ^ (2 * (ks.depth + 1) + 2 * K.R.length + 4)) : Fz < enN ks ((F.nd x ks .nil).weight) K.re K.w.length := by
  unfold enN
  have h1 : (F.nd x ks .nil).weight * (K.w.length + 2) ^ (2 * (ks.depth + 1) + 2 * K.R.length + 4) ≤ (F.nd x ks .nil).weight * (K.w.length + 2) ^ (2 * (ks.depth + 1) + 2 * (refsI K.re).length + 4) := Nat.mul_le_mul_left _ (Nat.pow_le_pow_right (by omega) (by omega))
  exact enL_ge (X := Fz + 1) (by omega) (by omega) _ _ (by omega)
set_option maxHeartbeats 4000000 in
theorem bFindF_fn (ra : Option Addr) (rc : Nat) (re : List Nd) (hre : ∀ x ∈ re, -128 ≤ x.op ∧ x.op < 128) (ta : Option Addr) (tc : Nat) (w : List UInt8) (hrl : re.length ≤ 1000000) (hwl : w.length ≤ 1000000) (p Fz : Int) (hf2 : Fz ≤ 9223372036854775807) (hfit : shapedB re = true → Fits re w.length) : HL.Fn Tryd.prog 16 [.slice ra re.length rc, .slice ta w.length tc, .int .i64 p, .int .i64 Fz] (fun W => Rd En W (.slice ra re.length rc) re ∧ Rd Eb W (.slice ta w.length tc) w ∧ RdP W 0 0 (Esp noS)) [] (BkF re w p Fz) := by
  refine fn_of Tryd.func16 rfl rfl rfl fun w0 hw => ?_; refine cR fun _ hK1 => ?_; refine oA (oA (oA (oZ hK1 (c_seq fun _ hK2 => ?_)))); refine cR fun _ hK3 => ?_; refine oM ?_; refine o_callP (shaped_fn ra rc re hre) rfl rfl rfl (fun w st => (RdK.old0 hw.1).out w st) (fun v16 hv16 => ?_); subst hv16
  cases hsb : shapedB re
  ·refine oS (s_not rfl) ?_; refine oZ hK3 ?_; refine cT (cR fun _ hK4 => ?_); refine oA (oA (oA (oZ hK4 (c_ret ?_)))); refine x_then_ret (?_); refine x_sub (Sub.refl _) (H' := []) hzB ?_; exact x_ret rfl (.tmp rfl (.tmp rfl (.tmp rfl (.nil)))) (.inr (.inl ⟨.inl ⟨hsb, rfl, rfl⟩, fun h => (by rw [hsb] at h; cases h)⟩))
  ·obtain ⟨hw60, x, ks, hS, cost, hct, hsum⟩ := hfit hsb w.length rfl
   refine oS (s_not rfl) ?_; refine oZ hK3 ?_; refine cFZ hK2 (c_seq fun _ hK5 => ?_); refine cR fun _ hK6 => ?_; refine oM ?_
   by_cases hp0 : p < 0
   ·refine oS lsT (oM ?_); refine oN ?_; refine oN ?_; refine oN ?_; refine oN ?_; refine oS sT (oM ?_); refine oN ?_; refine oN ?_; refine oS sT (oZ hK6 ?_); refine cT (cR fun _ hK7 => ?_); refine oA (oA (oA (oZ hK7 (c_ret ?_)))); refine x_then_ret (?_); refine x_sub (Sub.refl _) (H' := []) hzB ?_; exact x_ret rfl (.tmp rfl (.tmp rfl (.tmp rfl (.nil)))) (.inr (.inl ⟨.inr (.inl ⟨hsb, fun h => by omega, rfl, rfl⟩), fun _ _ _ => by omega⟩))
   ·obtain ⟨m, rfl⟩ : ∃ m : Nat, p = m := ⟨p.toNat, by omega⟩
    refine oS lsF (oM ?_); refine oY (oM ?_); refine oY (oM ?_); refine oY ?_; refine oS sC ?_; refine oY ?_
    by_cases hpl : (m : Int) > w.length
    ·refine oS gtT ?_; refine oS sP (oM ?_); refine oN ?_; refine oN ?_; refine oS sT (oZ hK6 ?_); refine cT (cR fun _ hK8 => ?_); refine oA (oA (oA (oZ hK8 (c_ret ?_)))); refine x_then_ret (?_); refine x_sub (Sub.refl _) (H' := []) hzB ?_; exact x_ret rfl (.tmp rfl (.tmp rfl (.tmp rfl (.nil)))) (.inr (.inl ⟨.inr (.inl ⟨hsb, fun h => by omega, rfl, rfl⟩), fun _ _ _ => by omega⟩))
    ·refine oS gtF ?_; refine oS sP (oM ?_); refine oY (oM ?_); refine oY ?_
     by_cases hF0 : Fz < 0
     ·refine oS lsT ?_; refine oS sP (oZ hK6 ?_); refine cT (cR fun _ hK8 => ?_); refine oA (oA (oA (oZ hK8 (c_ret ?_)))); refine x_then_ret (?_); refine x_sub (Sub.refl _) (H' := []) hzB ?_; exact x_ret rfl (.tmp rfl (.tmp rfl (.tmp rfl (.nil)))) (.inl ⟨hsb, hF0, rfl, rfl⟩)
     ·obtain ⟨f, rfl⟩ : ∃ f : Nat, Fz = f := ⟨Fz.toNat, by omega⟩
      refine oS lsF ?_; refine oS sP (oZ hK6 ?_); refine cFZ hK5 (cR fun _ hK9 => ?_); refine oM (oM (oM ?_)); refine o_call (startK_fn ra rc re hre ta tc w hrl hwl hsb f) rfl rfl rfl (by exact .nil) (fun w st => ⟨(RdK.old0 hw.1).out w st, (RdPK.old0 hw.2.2).out w st⟩) (fun v33 S33 ⟨K, s0, Sb, SX, hv33, hS33, ⟨q1, q2, q3, q4, q5, q6, hN⟩, hOb, hOX, hK, hR0, hs0, hd0, hnd, hrs⟩ => ?_); subst q1
      subst q2; subst q3
      subst q4; subst q5
      subst q6; subst hv33
      subst hS33
      have hroot : Part K.re (.nd x ks .nil) 0 K.re.length := hS.part
      have hat : 0 < K.re.length := (List.getElem?_eq_some_iff.1 hroot.head.1).1
      have h255 := gcn_255 hsb
      have h256 : K.R.length ≤ 256 := by have := nodup_len hnd hK.R; omega
      have hRl := refs_len hnd hrs
      have hq0 : QA K f (ks.size + 1) s0 (rsum cost K.w.length (K.w.length + 1 - m)) (m * (K.w.length + 2)) := qa_start hR0 hN hs0 hd0 (by have := rsum_le (cost := cost) (n := K.w.length) (m := K.w.length + 1 - m) (by omega); omega)
      refine oA (oZ hK9 (c_seq fun _ hK10 => ?_)); refine cR fun _ hK11 => ?_; refine oM (oA (oZ hK11 (c_block ?_)))
      -- not carried: 8 9 10
      refine c_loop2 (fun (q : BkS) (i : Nat) => QA K f (ks.size + 1) q (rsum cost K.w.length (K.w.length + 1 - i)) (i * (K.w.length + 2)) ∧ m ≤ i ∧ i ≤ K.w.length + 1 ∧ (∀ i2 j2, m ≤ i2 → i2 < i → i2 ≤ j2 → j2 ≤ K.w.length → LF1 K.w x ks i2 j2 (C0 K.re) = [])) (fun (q : BkS) (i : Nat) => [(12, .int .i64 i)]) [(1, _), (11, _)] (fun (q : BkS) (i : Nat) => ((K.b, .cells [.slice K.ra K.re.length K.rc, .slice K.ta K.w.length K.tc, .slice K.ba K.bl.length K.bc, .slice K.xa K.R.length K.xc, .slice q.fa (zeroF :: q.S.fs).length q.fc, .map (some K.bn), .map (some K.bt), .map (some K.bf), .slice K.sa (K.N + 1) K.sc, .int .i64 (q.S.fuel : Nat), .bool q.d].toArray 103 (0, 0)) :: K.tl q) ++ (Sb ++ SX)) (fun (q : BkS) (i : Nat) => K.w.length + 1 - i) s0 m ⟨hq0, Nat.le_refl _, by omega, fun _ _ h1 h2 => absurd h2 (by omega)⟩ sbA sbA hzB ?_
      rintro q i ⟨hQ, hmi, hil, hno⟩
      refine c_seq fun _ hK12 => ?_; refine cR fun _ hK13 => ?_; refine oM (oM ?_); refine oS sC ?_
      by_cases hin : (i : Int) ≤ K.w.length
      ·refine oS leT (oZ hK13 ?_); refine cTZ hK12 (c_seq fun _ hK14 => ?_); refine c_block (cR fun _ hK15 => ?_); refine oM ?_; refine oS sC (oA (oZ hK15 (c_block ?_))); refine c_loop2 (fun (q : BkS) (e : Int) => QA K f (ks.size + 1) q (((dwn i e).map (cost i)).sum + rsum cost K.w.length (K.w.length - i)) (i * (K.w.length + 2) + ((K.w.length : Int) - e).toNat) ∧ e ≤ K.w.length ∧ -1 ≤ e ∧ (∀ j2 : Nat, e < j2 → j2 ≤ K.w.length → LF1 K.w x ks i j2 (C0 K.re) = [])) (fun (q : BkS) (e : Int) => [(13, .int .i64 e)]) [(1, _), (11, _), (12, _), (35, _), (36, _), (37, _), (38, _), (41, _), (42, _)] (fun (q : BkS) (e : Int) => ((K.b, .cells [.slice K.ra K.re.length K.rc, .slice K.ta K.w.length K.tc, .slice K.ba K.bl.length K.bc, .slice K.xa K.R.length K.xc, .slice q.fa (zeroF :: q.S.fs).length q.fc, .map (some K.bn), .map (some K.bt), .map (some K.bf), .slice K.sa (K.N + 1) K.sc, .int .i64 (q.S.fuel : Nat), .bool q.d].toArray 103 (0, 0)) :: K.tl q) ++ (Sb ++ SX)) (fun (q : BkS) (e : Int) => (e + 1).toNat) q K.w.length ⟨by rw [dwn_ends, Int.sub_self]; rw [show K.w.length + 1 - i = (K.w.length - i) + 1 by omega, rsum, show K.w.length - (K.w.length - i) = i by omega] at hQ; exact hQ, Int.le_refl _, by omega, fun j2 h1 h2 => absurd h1 (by omega)⟩ sbA sbA hzB ?_
       rintro q e ⟨hQ, hel, hel1, hnj⟩
       refine c_seq fun _ hK16 => ?_; refine cR fun _ hK17 => ?_; refine oM (oM ?_)
       by_cases hei : e ≥ (i : Int)
       ·obtain ⟨j, rfl⟩ : ∃ m : Nat, e = (m : Int) := ⟨e.toNat, by omega⟩
        have hij : i ≤ j := by omega
        have hj : j ≤ K.w.length := by omega
        rw [dwn_cons hij, List.map_cons, List.sum_cons, Nat.add_assoc] at hQ
        obtain ⟨Z, hcz⟩ := hct (i, j) (mem_prs (by omega) hij hj)
        have hm1 : i * (K.w.length + 2) + ((K.w.length : Int) - (j : Int)).toNat + 1 ≤ (K.w.length + 2) * (K.w.length + 2) := by
          have h1 : i * (K.w.length + 2) ≤ K.w.length * (K.w.length + 2) := Nat.mul_le_mul_right _ (by omega)
          have h2 : (K.w.length + 2) * (K.w.length + 2) = K.w.length * (K.w.length + 2) + 2 * (K.w.length + 2) := Nat.add_mul _ _ _
          omega
        obtain ⟨b, S1, d2, hE, hz1, hans⟩ := qa_step hK hN h256 hQ hroot hij hj hm1 hcz
        refine oS geT (oZ hK17 ?_); refine cTZ hK16 (c_seq fun _ hK18 => ?_); refine c_block (cR fun _ hK19 => ?_); refine oM (oM (oM ?_)); refine oS (s_build (cs := [_, _]) (vs := [_, _]) rfl rfl (.cons rfl rfl rfl rfl rfl (.cons rfl rfl rfl rfl rfl (.nil)))) ?_; refine o_call (takeB_all hK 9223372036854775807 (Nat.le_refl _) q 0 i j 0 b S1 d2 hQ.1 hQ.fin hat hij hj (Nat.zero_le _) hE (Nat.le_trans hQ.fuel (by omega)) hz1) rfl rfl rfl pkA (fun w st => ⟨(RdK.old0 hw.1).out w st, st.apart_M (hin_cons meA (hin_cons meA (hin_cons meA (hin_cons meA (hin_app hiA hiA))))) hw.1 Apart.nil (by decide), (RdK.old0 hw.2.1).out w st, st.apart_M (hin_cons meA (hin_cons meA (hin_cons meA (hin_cons meA (hin_app hiA hiA))))) hw.2.1 Apart.nil (by decide), (hOb.rdk hiA).out w st, st.apart (S := ((K.b, .cells [.slice K.ra K.re.length K.rc, .slice K.ta K.w.length K.tc, .slice K.ba K.bl.length K.bc, .slice K.xa K.R.length K.xc, .slice q.fa (zeroF :: q.S.fs).length q.fc, .map (some K.bn), .map (some K.bt), .map (some K.bf), .slice K.sa (K.N + 1) K.sc, .int .i64 (q.S.fuel : Nat), .bool q.d].toArray 103 (0, 0)) :: K.tl q)) pkA hOb hiA, (hOX.rdk hiA).out w st, st.apart (S := ((K.b, .cells [.slice K.ra K.re.length K.rc, .slice K.ta K.w.length K.tc, .slice K.ba K.bl.length K.bc, .slice K.xa K.R.length K.xc, .slice q.fa (zeroF :: q.S.fs).length q.fc, .map (some K.bn), .map (some K.bt), .map (some K.bf), .slice K.sa (K.N + 1) K.sc, .int .i64 (q.S.fuel : Nat), .bool q.d].toArray 103 (0, 0)) :: K.tl q)) pkA hOX hiA, (RdPK.old0 hw.2.2).out w st, st.notin (hin_cons meA (hin_cons meA (hin_cons meA (hin_cons meA (hin_app hiA hiA))))) hw.2.2 (by simp [Esp]) (by intro h; cases h)⟩) (fun v52 S52 ⟨q2, hv52, hS52, hR2, hF2, he2, hd2⟩ => ?_)
        subst hv52; subst hS52
        obtain ⟨ha1, ha2, ha3⟩ := hans q2 hR2 hF2 he2 hd2
        cases d2
        ·cases b
         ·obtain ⟨hlf, hQ2⟩ := ha3 rfl rfl
          refine oA (oZ hK19 (c_block (cR fun _ hK20 => ?_))); refine oM ?_; refine oS sN ?_; refine oS sF ?_; refine oS (step_cast (v' := .bool false) (s_ld rfl (.own meA rfl)) (by rw [hd2])) ?_; refine oA (oZ hK20 ?_); refine cF (cR fun _ hK21 => ?_); refine oM (oA (oZ hK21 ?_)); refine cF (c_skip (x_block (x_block (xZ hK18 (c_region (oM ?_)))))); refine oS sU (oA (o_nil ?_)); exact xI (q2, (j : Int) - 1) ⟨hQ2.up (by omega), by dsimp only; omega, by dsimp only; omega, fun j2 h1 h2 => if h : (j : Int) < j2 then hnj j2 h h2 else (by have e9 : j2 = j := (by dsimp only at h1; omega); subst e9; exact hlf)⟩
         ·obtain ⟨r, hhd, hcr, hcs2⟩ := ha2 rfl rfl
          have hO2 := hR2.sp
          rw [hcs2] at hO2
          have hsl2 := hO2.sl
          have hrl2 : (noS :: r).length = K.N + 1 := by rw [List.length_cons, hcr.len]
          rw [hrl2] at hsl2
          refine oA (oZ hK19 (c_block (cR fun _ hK22 => ?_))); refine oM ?_; refine oS sN ?_; refine oS sF ?_; refine oS (step_cast (v' := .bool false) (s_ld rfl (.own meA rfl)) (by rw [hd2])) ?_; refine oA (oZ hK22 ?_); refine cF (cR fun _ hK23 => ?_); refine oM (oA (oZ hK23 ?_)); refine cT (cR fun _ hK24 => ?_); refine oM ?_; refine oS sN ?_; refine oS sF ?_; refine oS sL (oM (oM ?_)); refine oS (s_build (cs := [_, _]) (vs := [_, _]) rfl rfl (.cons rfl rfl rfl rfl rfl (.cons rfl rfl rfl rfl rfl (.nil)))) ?_; refine oS (s_idx rfl rfl hsl2 (by omega)) ?_; refine o_stSE 0 ⟨(i : Nat), (j : Nat)⟩ hO2 pkA rfl rfl (by rw [hrl2]; omega) (by rfl) fun S' hS' => ?_; refine oZ hK24 (cR fun _ hK25 => ?_); refine oM ?_; refine oS sN ?_; refine oS sF ?_; refine oS sL (oA (oA (oA (oZ hK25 (c_ret ?_))))); refine x_block_ret (x_block_ret (x_then_ret (x_then_ret (x_block_ret (x_block_ret (x_then_ret (x_then_ret (x_block_ret (x_then_ret (?_))))))))))
          refine x_sub (Sub.refl _) (H' := S') hzB ?_; exact x_ret rfl (.tmp rfl (.tmp rfl (.tmp rfl (.nil)))) (.inr (.inl ⟨.inr (.inr ⟨hsb, m, rfl, by omega, x, ks, hS, .inr ⟨i, j, r, K.sa, K.sc, ⟨hmi, hij, hj, hhd, hno, fun j2 h1 h2 => hnj j2 (by omega) h2, by rw [hcr.len, hN, C0, List.length_replicate], hcr.ok⟩, by rw [hN]; rfl, by rw [← hN]; exact hS'⟩⟩), fun _ _ _ => by omega⟩))
        ·obtain ⟨hl1, hl2⟩ := ha1 rfl
         refine oA (oZ hK19 (c_block (cR fun _ hK30 => ?_))); refine oM ?_; refine oS sN ?_; refine oS sF ?_; refine oS (step_cast (v' := .bool true) (s_ld rfl (.own meA rfl)) (by rw [hd2])) ?_; refine oA (oZ hK30 ?_); refine cT (cR fun _ hK31 => ?_); refine oA (oA (oA (oZ hK31 (c_ret ?_)))); refine x_block_ret (x_block_ret (x_then_ret (x_then_ret (x_block_ret (x_block_ret (x_then_ret (x_then_ret (x_block_ret (x_then_ret (?_))))))))))
         refine x_sub (Sub.refl _) (H' := []) hzB ?_; exact x_ret rfl (.tmp rfl (.tmp rfl (.tmp rfl (.nil)))) (.inr (.inr ⟨hsb, ⟨by omega, by omega⟩, by omega, rfl, rfl, x, ks, hS, by exact_mod_cast qa_out hRl hl1 hl2⟩))
       ·rw [dwn_nil hei, List.map_nil, List.sum_nil, Nat.zero_add] at hQ
        refine oS geF (oZ hK17 ?_); refine cF ?_; refine c_exit ?_; refine x_then_exit (x_then_exit (x_block_exit (x_block (xZ hK14 (c_region (oM ?_)))))); refine oS sD (oA (o_nil ?_)); exact xI (q, i + 1) ⟨by dsimp only; rw [show K.w.length + 1 - (i + 1) = K.w.length - i by omega]; exact hQ.up (by rw [Nat.succ_mul]; omega), by dsimp only; omega, by dsimp only; omega, fun i2 j2 h1 h2 h3 h4 => if h : i2 < i then hno i2 j2 h1 h h3 h4 else (by have e9 : i2 = i := (by dsimp only at h2; omega); subst e9; exact hnj j2 (by omega) h4)⟩
      ·obtain rfl : i = K.w.length + 1 := by omega
       refine oS leF (oZ hK13 ?_); refine cF ?_; refine c_exit ?_; refine x_then_exit (x_then_exit (x_block_exit (xZ hK10 (cR fun _ hK26 => ?_)))); refine oA (oA (oA (oZ hK26 (c_ret ?_)))); refine ?_; refine x_sub (Sub.refl _) (H' := []) hzB ?_; exact x_ret rfl (.tmp rfl (.tmp rfl (.tmp rfl (.nil)))) (.inr (.inl ⟨.inr (.inr ⟨hsb, m, rfl, by omega, x, ks, hS, .inl ⟨fun i2 j2 h1 h2 h3 => hno i2 j2 h1 (by omega) h2 h3, rfl, rfl⟩⟩), fun _ _ _ => by omega⟩))
theorem enN_le {ks : F} {x : Nd} {re : List Nd} {n : Nat} (hS : Shp re x ks) : enN ks ((F.nd x ks .nil).weight) re n ≤ 4611686018427387904 := enL_le (by omega) _ _ (by have := hS.weight; omega)
theorem bFind_fn (ra : Option Addr) (rc : Nat) (re : List Nd) (hre : ∀ x ∈ re, -128 ≤ x.op ∧ x.op < 128) (ta : Option Addr) (tc : Nat) (w : List UInt8) (hrl : re.length ≤ 1000000) (hwl : w.length ≤ 1000000) (p : Int) (f : Nat) (hf : 4611686018427387904 ≤ f) (hf2 : f ≤ 9223372036854775807) (hfit : shapedB re = true → Fits re w.length) : HL.Fn Tryd.prog 16 [.slice ra re.length rc, .slice ta w.length tc, .int .i64 p, .int .i64 (f : Nat)] (fun W => Rd En W (.slice ra re.length rc) re ∧ Rd Eb W (.slice ta w.length tc) w ∧ RdP W 0 0 (Esp noS)) [] (BkP re w p) := (bFindF_fn ra rc re hre ta tc w hrl hwl p f (by omega) hfit).weaken (fun _ h => h) fun v S' h => by
  rcases h with ⟨_, h, _⟩ | ⟨h, _⟩ | ⟨_, _, _, _, _, x, ks, hS, h⟩
  · omega
  · exact h
  · have := enN_le (n := w.length) hS; omega
end Go.Proofs.YtloepfcndglmmaaDoor
namespace Go.HL.Kl.Mc
open Go Go.HL Go.HL.Kl AskE
structure WalkE where
  (bW : Nat)
  (ra : Option Addr) (rc : Nat) (re : List Nd) (ta : Option Addr) (tc : Nat) (tx : List UInt8) (ca : Option Addr) (N cc : Nat)
namespace WalkE
abbrev vre (K : WalkE) : Value := .slice K.ra K.re.length K.rc
abbrev vtx (K : WalkE) : Value := .slice K.ta K.tx.length K.tc
abbrev vca (K : WalkE) : Value := .slice K.ca K.N K.cc
abbrev cells (K : WalkE) : List Value := [K.vre, K.vtx, K.vca]
end WalkE
structure EnvW (w : World) (K : WalkE) (M : List Nat) : Prop where
  p1 : RdP w K.bW 0 K.cells
  d1 : Rd En w K.vre K.re
  d2 : Rd Eb w K.vtx K.tx
  n1 : K.bW ∉ M
  a1 : Apart M K.vre
  a2 : Apart M K.vtx
structure WalkE.ok (K : WalkE) : Prop where
  rng : ∀ x ∈ K.re, -128 ≤ x.op ∧ x.op < 128
  no8 : ∀ x ∈ K.re, ¬ x.op = 8
  len : K.re.length ≤ 1000000
  tx : K.tx.length ≤ 1000000
def BestK (P : Program) (K : WalkE) (fn T : Nat) (x : Nd) (ks : F) : Prop := ∀ (i i1 p q : Nat) (cs : List Sp) (Sc : Hp), Part K.re (.nd x ks .nil) i i1 → p ≤ q → q ≤ K.tx.length → der1 K.tx x ks p q → cs.length = K.N → Slots K.re K.N → OwnS Esp 2 T K.vca cs Sc →
  Fn P fn [pt K.bW, .int .i64 i, .int .i64 p, .int .i64 q] (fun W => EnvW W K (keys Sc)) Sc (fun _ S' => OwnS Esp 2 T K.vca (bst1 K.tx x ks p q cs) S')
def CapR (x : Nd) (r s : Nat) : Prop := r = s ∨ (x.mx = -1 ∧ max x.mn.toNat 1 ≤ r ∧ s = max x.mn.toNat 1)
end Go.HL.Kl.Mc
namespace Go.HL
open Go
theorem sl_allL {α : Type} {sls : List (Sl α)} {N : Nat} (h : ∀ s, s ∈ sls → s.xs.length ≤ N) : ∀ (j : Nat) (s : Sl α), sls[j]? = some s → s.xs.length ≤ N := fun _ s hs => h s (List.mem_of_getElem? hs)
end Go.HL
namespace Go.HL.Kl.Mc
open Go Go.HL Go.HL.Kl
def FRes (re : List Nd) (w : List UInt8) (f : Int) (b : Bool) (L : List Sp) : Prop :=
  (∃ x ks, ∃ g p q : Nat, May re w x ks ∧ f = g ∧ Lft w x ks g p q ∧ b = true ∧ L = capsV w re x ks p q) ∨
  ((¬ ∃ x ks, ∃ g p q : Nat, May re w x ks ∧ f = g ∧ g ≤ p ∧ q ≤ w.length ∧ der1 w x ks p q) ∧ b = false ∧ L = [])
def BRes (re : List Nd) (w : List UInt8) (fr to : Int) (b : Bool) (L : List Sp) : Prop :=
  (∃ x ks, ∃ p q : Nat, May re w x ks ∧ fr = p ∧ to = q ∧ p ≤ q ∧ q ≤ w.length ∧ der1 w x ks p q ∧ b = true ∧ L = capsV w re x ks p q) ∨
  ((¬ ∃ x ks, ∃ p q : Nat, May re w x ks ∧ fr = p ∧ to = q ∧ p ≤ q ∧ q ≤ w.length ∧ der1 w x ks p q) ∧ b = false ∧ L = [])
def spB (j : Nat) : UInt8 := UInt8.ofNat (279 + 7 * j + 3)
def xor3 (x : UInt8) : UInt8 := UInt8.ofNat (BitVec.ofInt 8 (x.toNat : Int) ^^^ BitVec.ofInt 8 3).toNat
end Go.HL.Kl.Mc
namespace Go.HL.Kl.Mc
open Go Go.HL Go.HL.Kl AskE
structure GoodL (n at_ : Nat) (L : List Sp) (p q : Nat) : Prop where
  hd : L[0]? = some ⟨p, q⟩
  ge : at_ ≤ p
  le : p ≤ q
  ln : q ≤ n
  all : ∀ s ∈ L, s = noS ∨ (0 ≤ s.fr ∧ s.fr ≤ s.to ∧ s.to ≤ n)
  len : L.length ≤ 4294967296
inductive MtS {σ : Type} (stp : σ → Nat → Bool → List Sp → σ → Prop) (n : Nat) : σ → Nat → Int → List (List Sp) → Prop
  | out {s : σ} {a : Nat} {last : Int} (h : n < a) : MtS stp n s a last []
  | none {s s' : σ} {a : Nat} {last : Int} (h : a ≤ n) (hs : stp s a false [] s') : MtS stp n s a last []
  | skip {s s' : σ} {a p : Nat} {last : Int} {L : List Sp} {xs : List (List Sp)} (h : a ≤ n) (hs : stp s a true L s') (hg : GoodL n a L p p) (hl : last = p) (hr : MtS stp n s' (a + 1) last xs) : MtS stp n s a last xs
  | take {s s' : σ} {a p q : Nat} {last : Int} {L : List Sp} {xs : List (List Sp)} (h : a ≤ n) (hs : stp s a true L s') (hg : GoodL n a L p q) (hl : ¬ (p = q ∧ last = p)) (hr : MtS stp n s' q q xs) : MtS stp n s a last (L :: xs)
inductive ChL (n : Nat) : Nat → Int → List (List Sp) → Prop
  | nil {a : Nat} {last : Int} : ChL n a last []
  | cons {a p q : Nat} {last : Int} {L : List Sp} {xs : List (List Sp)} (hg : GoodL n a L p q) (hl : ¬ (p = q ∧ last = p)) (hr : ChL n q q xs) : ChL n a last (L :: xs)
def stpR (re : List Nd) (w : List UInt8) (_ : Unit) (a : Nat) (b : Bool) (L : List Sp) (_ : Unit) : Prop := FRes re w (a : Int) b L
def Det {σ : Type} (stp : σ → Nat → Bool → List Sp → σ → Prop) : Prop := ∀ s a b L s' b2 L2 s2, stp s a b L s' → stp s a b2 L2 s2 → b = b2 ∧ L = L2 ∧ s' = s2
end Go.HL.Kl.Mc
namespace Go.Proofs.YtloepfcndglmmaaDoor
open Go Go.HL Go.Proofs Go.HL.Kl Go.HL.Kl.Mc Go.HL.Kl.Mc.AskE
theorem BSome.uniq {w : List UInt8} {x : Nd} {ks : F} {c0 : Caps} {p i j i' j' : Nat} {c c' : Caps} (h : BSome w x ks c0 p i j c) (h' : BSome w x ks c0 p i' j' c') : i = i' ∧ j = j' ∧ c = c' := by
  have ne : ∀ {l : List Caps} {d : Caps}, l.head? = some d → l ≠ [] := fun h e => by rw [e] at h; cases h
  have h1 : i = i' := by
    rcases Nat.lt_trichotomy i i' with hlt | he | hlt
    · exact absurd (h'.fst i j h.lo hlt h.ij h.hi) (ne h.hd)
    · exact he
    · exact absurd (h.fst i' j' h'.lo hlt h'.ij h'.hi) (ne h'.hd)
  subst h1
  have h2 : j = j' := by
    rcases Nat.lt_trichotomy j j' with hlt | he | hlt
    · exact absurd (h.lng j' hlt h'.hi) (ne h'.hd)
    · exact he
    · exact absurd (h'.lng j hlt h.hi) (ne h.hd)
  subst h2
  exact ⟨rfl, rfl, Option.some.inj (h.hd.symm.trans h'.hd)⟩
theorem BSome.not_none {w : List UInt8} {x : Nd} {ks : F} {c0 : Caps} {p i j : Nat} {c : Caps} (h : BSome w x ks c0 p i j c) : ¬ BNone w x ks c0 p := fun hn => by
  have h1 := h.hd
  rw [hn i j h.lo h.ij h.hi] at h1; cases h1
def BkRes (re : List Nd) (w : List UInt8) (f : Int) (b : Bool) (L : List Sp) : Prop :=
  (¬ (0 ≤ f ∧ f ≤ w.length) ∧ b = false ∧ L = []) ∨ ∃ (m : Nat) (x : Nd) (ks : F), f = m ∧ m ≤ w.length ∧ Shp re x ks ∧ ((BNone w x ks (C0 re) m ∧ b = false ∧ L = []) ∨ ∃ (i j : Nat) (c : Caps), BSome w x ks (C0 re) m i j c ∧ b = true ∧ L = ⟨(i : Nat), (j : Nat)⟩ :: c)
theorem BkRes.uniq {re : List Nd} {w : List UInt8} {f : Int} {b b' : Bool} {L L' : List Sp} (h : BkRes re w f b L) (h' : BkRes re w f b' L') : b = b' ∧ L = L' := by
  rcases h with ⟨h1, rfl, rfl⟩ | ⟨m, x, ks, rfl, hm, hS, h⟩
  · rcases h' with ⟨_, rfl, rfl⟩ | ⟨m, x, ks, rfl, hm, _, _⟩
    · exact ⟨rfl, rfl⟩
    · exact absurd ⟨by omega, by omega⟩ h1
  · rcases h' with ⟨h1, _, _⟩ | ⟨m', x', ks', he, hm', hS', h'⟩
    · exact absurd ⟨by omega, by omega⟩ h1
    · obtain rfl : m = m' := by omega
      obtain ⟨rfl, rfl⟩ := hS.uniq hS'
      rcases h with ⟨a1, rfl, rfl⟩ | ⟨i, j, c, a1, rfl, rfl⟩
      · rcases h' with ⟨_, rfl, rfl⟩ | ⟨i', j', c', a2, rfl, rfl⟩
        · exact ⟨rfl, rfl⟩
        · exact absurd a1 a2.not_none
      · rcases h' with ⟨a2, rfl, rfl⟩ | ⟨i', j', c', a2, rfl, rfl⟩
        · exact absurd a2 a1.not_none
        · obtain ⟨rfl, rfl, rfl⟩ := a1.uniq a2
          exact ⟨rfl, rfl⟩
end Go.Proofs.YtloepfcndglmmaaDoor
