/- Part of the proofs over this seat: see the text that holds the theorem. Conditions: each theorem bears its own. -/
import Derived.Test.YtloepfcndglmmaaDoorHTZ
import Derived.Test.YtloepfcndglmmaaDoorVZV5Z
import Derived.Test.YtloepfcndglmmaaDoorMOZ
import Derived.Test.YtloepfcndglmmaaDoorBT2Z
import Derived.Test.YtloepfcndglmmaaDoorVZN4Z
import Derived.Test.YtloepfcndglmmaaDoorBS7Z
import Derived.Test.YtloepfcndglmmaaDoorHM2Z
namespace Go.Proofs.YtloepfcndglmmaaDoor
open Go Go.HL Go.Proofs Go.HL.Kl Go.HL.Kl.Mc Go.HL.Kl.Mc.AskE
theorem row_allV (K : TalE) (hK : K.ok) (L : Nat) (hN : K.NodeV L) (f : F) : K.RowV L f := by
  obtain ⟨n, hn⟩ : ∃ n, f.size = n := ⟨_, rfl⟩
  induction n using Nat.strongRecOn generalizing f with
  | ind n ih => exact fun at_ i1 hp i j hij hjn c Pool hc left h0 hL h5 => row_stepV K hK L hN f (fun g hg => ih g.size (by omega) g rfl) at_ i1 hp i j hij hjn c Pool hc left h0 hL h5
theorem tally_allV (K : TalE) (hK : K.ok) : ∀ L, K.NodeV L ∧ K.RoundsV L
  | 0 => ⟨fun _ _ _ _ _ _ _ _ _ _ _ _ left h0 hL _ => absurd hL (by omega), fun _ _ _ _ _ _ _ _ _ _ _ _ _ _ _ _ left h0 hL _ _ => absurd hL (by omega)⟩
  | L + 1 => by
    obtain ⟨hN, hRo⟩ := tally_allV K hK L
    exact ⟨fun x ks at_ i1 hp i j hij hjn c Pool hc left h0 hL h5 => node_stepV K hK L hN (row_allV K hK L hN) hRo x ks at_ i1 hp i j hij hjn c Pool hc left h0 (by omega) h5,
      fun x y js at_ i1 h6 hp had hhd i j hij hjn c Pool hc left h0 hL h5 hhl => rounds_stepV K hK L hN hRo x y js at_ i1 h6 hp had hhd i j hij hjn c Pool hc left h0 (by omega) h5 hhl⟩
def Fits (re : List Nd) (n : Int) : Prop := ∀ m : Nat, n = m → m ≤ 60 ∧ ∃ x ks, Shp re x ks ∧ LAcc m x ks (List.replicate (gcn re) noS) (prs m (m + 1)) 262144
set_option maxHeartbeats 4000000 in
theorem lookedV_fn (ra : Option Addr) (rc : Nat) (re : List Nd) (hre : ∀ x ∈ re, -128 ≤ x.op ∧ x.op < 128) (n : Int) : HL.Fn Tryd.prog 49 [.slice ra re.length rc, .int .i64 n] (fun W => Rd En W (.slice ra re.length rc) re) [] (fun v _ => ∃ k : Int, v = .int .i64 k ∧ (shapedB re = true → 0 ≤ n → k ≤ 262144 → Fits re n)) := by
  refine fn_of Tryd.func49 rfl rfl rfl fun w0 hw => ?_
  have hsl := hw.sl
  have hbl := hsl.le
  refine cR fun _ hK1 => ?_; refine oA (oZ hK1 (c_seq fun _ hK2 => ?_)); refine cR fun _ hK3 => ?_; refine oM ?_; refine o_callP (rShaped_fn ra rc re hre) rfl rfl rfl (fun _ st => (RdK.old0 hw).out _ st) (fun v15 hv15 => ?_); subst hv15
  cases hsb : shapedB re
  ·refine oS (s_not rfl) ?_; refine oM ?_; refine oN ?_; refine oN ?_; refine oS sT (oZ hK3 ?_); refine cT (cR fun _ hK4 => ?_); refine oA (oZ hK4 (c_ret ?_)); refine x_then_ret (?_); exact xR rfl rfl (⟨_, rfl, fun h => absurd h (by rw [hsb]; decide)⟩)
  ·obtain ⟨_, x, ks, hS⟩ := shapedB_iff.1 hsb
   have hroot : Part re (.nd x ks .nil) 0 re.length := hS.part
   have hlen := hS.len
   have hgc : gcn re ≤ re.length := List.countP_le_length
   refine oS (s_not rfl) ?_; refine oM ?_; refine oY (oM ?_); refine oY ?_
   by_cases hn0 : n < 0
   ·refine oS lsT ?_; refine oS sP (oZ hK3 ?_); refine cT (cR fun _ hK5 => ?_); refine oA (oZ hK5 (c_ret ?_)); refine x_then_ret (?_); exact xR rfl rfl (⟨_, rfl, fun _ h => absurd h (by omega)⟩)
   ·obtain ⟨n, rfl⟩ : ∃ m : Nat, n = m := ⟨n.toNat, by omega⟩
    refine oS lsF ?_; refine oS sP (oZ hK3 ?_); refine cFZ hK2 (c_seq fun _ hK6 => ?_); refine cR fun _ hK7 => ?_; refine oM ?_
    by_cases hn60 : (n : Int) > 60
    ·refine oS gtT (oZ hK7 ?_); refine cT (cR fun _ hK8 => ?_); refine oA (oZ hK8 (c_ret ?_)); refine x_then_ret (?_); exact xR rfl rfl (⟨_, rfl, fun _ _ h => absurd h (by decide)⟩)
    ·refine oS gtF (oZ hK7 ?_); refine cFZ hK6 (cR fun _ hK9 => ?_); refine oM (oM ?_); refine oS (step_cast (v' := .agg [.slice ra re.length rc, .int .i64 (n : Nat), .slice none 0 0, .int .i64 262144].toArray) (s_build (cs := [_, _, _, _]) (vs := [_, _, _]) rfl rfl (.cons rfl rfl rfl rfl rfl (.cons rfl rfl rfl rfl rfl (.cons rfl rfl rfl rfl rfl .nil)))) rfl) ?_; refine o_box rfl rfl rfl fun b26 => ?_; refine oA (oZ hK9 (cR fun _ hK10 => ?_)); refine oA (oZ hK10 (c_seq fun _ hK11 => ?_)); refine cR fun _ hK12 => ?_; refine oA (oZ hK12 (c_block ?_)); refine c_loop5 (fun (q : Nat) (ha : Option Addr) (hc : Nat) (hl : List Nat) (Sh : Hp) => q ≤ re.length ∧ BehI re hl q ∧ OwnS Eix 1 3 (.slice ha hl.length hc) hl Sh) (fun (q : Nat) (ha : Option Addr) (hc : Nat) (hl : List Nat) (Sh : Hp) => [(7, .int .i64 q), (6, .int .i64 (gcn (re.take q) : Nat))]) [(0, _), (1, _), (4, _), (5, _)] (fun (q : Nat) (ha : Option Addr) (hc : Nat) (hl : List Nat) (Sh : Hp) => (b26, .cells [.slice ra re.length rc, .int .i64 (n : Nat), .slice ha hl.length hc, .int .i64 262144].toArray 144 (0, 0)) :: Sh) (fun (q : Nat) (ha : Option Addr) (hc : Nat) (hl : List Nat) (Sh : Hp) => re.length - q) 0 none 0 [] [] ⟨Nat.zero_le _, BehI.nil, .nil⟩ sbA sbA hzB ?_
     rintro q ha hc hl Sh ⟨hql, hB, hOh⟩
     have hBl := hB.1
     refine c_seq fun _ hK13 => ?_; refine cR fun _ hK14 => ?_; refine oM (oM ?_); refine oS sC ?_; refine oS (s_lss rfl rfl) ?_; refine oZ hK14 ?_; refine c_if rfl (fun hq => ?_) (fun hq => ?_)
     ·obtain ⟨y, js, r, e, hp⟩ := part_at _ _ _ hroot q (Nat.zero_le _) (by omega)
      obtain ⟨hy, _, _⟩ := hp.head
      have hgt := gcn_take hy
      have hgq : gcn (re.take q) ≤ re.length := Nat.le_trans List.countP_le_length (by rw [List.length_take]; omega)
      have hyr := hre y (List.mem_of_getElem? hy)
      have hpe := hp.le
      have hpn := hp.len
      refine c_skip (xZ hK13 (c_seq fun _ hK15 => ?_)); refine c_block (cR fun _ hK16 => ?_); refine oA (oZ hK16 (cR fun _ hK17 => ?_)); refine oM (oA (oZ hK17 (c_seq fun _ hK18 => ?_))); refine c_block ?_; refine c_loop2 (fun (h : F) (k : Nat) => Part re h k (q + 1 + js.size)) (fun (h : F) (k : Nat) => [(8, .int .i64 (h.num : Nat)), (9, .int .i64 k)]) [(0, _), (1, _), (4, _), (5, _), (6, _), (7, _), (27, _), (28, _), (29, _), (30, _), (33, _)] (fun (h : F) (k : Nat) => (b26, .cells [.slice ra re.length rc, .int .i64 (n : Nat), .slice ha hl.length hc, .int .i64 262144].toArray 144 (0, 0)) :: Sh) (fun (h : F) (k : Nat) => h.size) (F.nd y js .nil) q hp.one_end sbA sbA hzB ?_
      rintro h k hph
      refine c_seq fun _ hK19 => ?_; refine cR fun _ hK20 => ?_; refine oM ?_; refine oS (s_gtr rfl rfl) ?_; refine oZ hK20 ?_; refine c_if rfl (fun hleft => ?_) (fun hleft => ?_)
      ·obtain ⟨z, a, b, rfl⟩ : ∃ z a b, h = F.nd z a b := by cases h with | nil => exact absurd hleft (by simp [F.num]) | nd z a b => exact ⟨z, a, b, rfl⟩
       obtain ⟨hz, hpa, hpb⟩ := hph.head
       have hzw : (a.num : Int) = z.kids := hph.wf.2.1
       have hhl := hph.le
       have hhn := hph.len
       have hnn := F.num_le a
       have hnb := F.num_le b
       simp only [F.size] at hhn
       have hnm : (F.nd z a b).num = b.num + 1 := rfl
       refine c_skip (xZ hK19 (c_block (cR fun _ hK21 => ?_))); refine oM ?_; refine oS sU (oM (oM ?_)); refine oS (s_idx rfl rfl hsl (by omega)) ?_; refine oS sF ?_; refine oS (s_ld rfl ((RdK.old0 hw).ld k 8 hz rfl (by decide) (by omega))) ?_; refine oS (step_cast (v' := .int .i64 ((a.app b).num : Nat)) (s_add rfl rfl (by omega)) (congrArg _ (by rw [F.num_app]; omega))) ?_; refine oA (oZ hK21 (c_region (oM ?_))); refine oS sD (oA (o_nil (x_block ?_))); exact x_then (x_inv ((a.app b), k + 1) (hpa.app hpb) (by rw [F.size_app]; simp only [F.size]; omega) sbA hzB)
      ·obtain rfl := F.num_nil (f := h) (by omega)
       have hke := hph.len
       obtain rfl : k = q + 1 + js.size := by simp only [F.size] at hke; omega
       refine c_exit ?_; refine x_then_exit (x_then_exit (x_block_exit (xZ hK18 (cR fun _ hK22 => ?_)))); refine oM (oM ?_); refine oS sN ?_; refine oS sF ?_; refine oS sL (oM ?_); refine o_bs (E := Eix) (xs := [q + 1 + js.size]) (vs := [_]) rfl rfl rfl rfl rfl (by decide) (by decide) fun b52 S52 hS52 => ?_; refine o_app hOh (hS52.rdk hiA) rfl rfl rfl rfl (by simp only [List.length_singleton]; omega) (by simp only [List.length_singleton]; omega) rfl pkA fun a53 c53 S53 hS53 => ?_; refine oS sN ?_; refine oS sF ?_; refine o_store rfl rfl rfl upA ltA rfl ?_; refine oZ hK22 (cR fun _ hK23 => ?_); refine oM (oM ?_); refine oS (s_idx rfl rfl hsl (by omega)) ?_; refine oS sF ?_; refine oS (s_ld rfl ((RdK.old0 hw).ld q 0 hy rfl (by decide) (by omega))) ?_; refine oS (s_convI rfl (by omega)) ?_
       by_cases h7 : y.op = 7
       ·rw [if_pos h7] at hgt
        refine oS (eqT (h := h7)) ?_; refine oZ hK23 ?_; refine cT (c_region (oM ?_)); refine oS (step_cast (v' := .int .i64 (gcn (re.take (q + 1)) : Nat)) (s_add rfl rfl (by omega)) (congrArg _ (by omega))) ?_; refine oA (o_nil (x_block (xZ hK15 (c_region (oM ?_))))); refine oS sD (oA (o_nil ?_)); exact xI (q + 1, a53, c53, hl ++ [q + 1 + js.size], S53) ⟨by dsimp only; omega, hB.snoc hp, hS53⟩
       ·rw [if_neg h7] at hgt
        rw [show gcn (re.take q) = gcn (re.take (q + 1)) by omega]
        refine oS (eqF (h := h7)) ?_; refine oZ hK23 ?_; refine cF (c_skip (x_block (xZ hK15 (c_region (oM ?_))))); refine oS sD (oA (o_nil ?_)); exact xI (q + 1, a53, c53, hl ++ [q + 1 + js.size], S53) ⟨by dsimp only; omega, hB.snoc hp, hS53⟩
     ·obtain rfl : q = re.length := by omega
      rw [List.take_length]
      have hK : TalE.ok (⟨b26, ra, rc, re, n, ha, hc, hl, gcn re⟩ : TalE) := ⟨hre, by dsimp only; omega, by dsimp only; omega, by dsimp only; omega, fun y hy h7 => grp_le hsb hy h7, fun y hy h8 => ref_n hsb hy h8, fun k y js r e hp => hB.2 k y js r e (by have h1 := hp.le; have h2 := hp.len; simp only [F.size] at h2; dsimp only at h1; omega) hp⟩
      refine c_exit ?_; refine x_then_exit (x_then_exit (x_block_exit (xZ hK11 (c_seq fun _ hK24 => ?_)))); refine cR fun _ hK25 => ?_; refine oA (oZ hK25 (c_block ?_)); refine c_loop2 (fun (p : Nat) (lf : Int) => p ≤ n + 1 ∧ -700000 ≤ lf ∧ lf ≤ 262144 ∧ (0 ≤ lf → LAcc n x ks (List.replicate (gcn re) noS) (prs n p) (262144 - lf))) (fun (p : Nat) (lf : Int) => [(10, .int .i64 p)]) [(1, _), (4, _), (5, _), (6, _)] (fun (p : Nat) (lf : Int) => (b26, .cells [.slice ra re.length rc, .int .i64 (n : Nat), .slice ha hl.length hc, .int .i64 lf].toArray 144 (0, 0)) :: Sh) (fun (p : Nat) (lf : Int) => n + 1 - p) 0 262144 ⟨Nat.zero_le _, by decide, by decide, fun _ => .nil (by decide)⟩ sbA sbA hzB ?_
      rintro p lf ⟨hp1, hlo, hhi, hLA⟩
      refine c_seq fun _ hK26 => ?_; refine cR fun _ hK27 => ?_; refine oM (oM ?_); refine oS (s_leq rfl rfl) ?_; refine oZ hK27 ?_; refine c_if rfl (fun hpn => ?_) (fun hpn => ?_)
      ·refine c_skip (xZ hK26 (c_seq fun _ hK28 => ?_)); refine c_block (cR fun _ hK29 => ?_); refine oM (oA (oZ hK29 (c_block ?_))); refine c_loop2 (fun (jz : Int) (lf : Int) => (p : Int) - 1 ≤ jz ∧ jz ≤ n ∧ -700000 ≤ lf ∧ lf ≤ 262144 ∧ (0 ≤ lf → LAcc n x ks (List.replicate (gcn re) noS) (prs n p ++ rowP n p (ends (jz + 1).toNat n)) (262144 - lf))) (fun (jz : Int) (lf : Int) => [(11, .int .i64 jz)]) [(1, _), (4, _), (5, _), (6, _), (10, _), (65, _), (66, _), (67, _), (70, _)] (fun (jz : Int) (lf : Int) => (b26, .cells [.slice ra re.length rc, .int .i64 (n : Nat), .slice ha hl.length hc, .int .i64 lf].toArray 144 (0, 0)) :: Sh) (fun (jz : Int) (lf : Int) => (jz + 1 - p).toNat) (n : Int) lf ⟨by omega, Int.le_refl _, hlo, hhi, fun h0 => by rw [show ((n : Int) + 1).toNat = n + 1 by omega, rowP_none, List.append_nil]; exact hLA h0⟩ sbA sbA hzB ?_
       rintro jz lf ⟨hj1, hj2, hlo, hhi, hLB⟩
       refine c_seq fun _ hK30 => ?_; refine cR fun _ hK31 => ?_; refine oM (oM ?_)
       by_cases hjp : jz ≥ (p : Int)
       ·obtain ⟨j, rfl⟩ : ∃ m : Nat, jz = m := ⟨jz.toNat, by omega⟩
        refine oS geT (oM ?_); refine oY (oM ?_); refine oY ?_; refine oS sN ?_; refine oY ?_; refine oS sF ?_; refine oY ?_; refine oS sL ?_; refine oY ?_
        by_cases hlf0 : lf ≥ 0
        ·refine oS geT ?_; refine oS sT (oZ hK31 ?_); refine cTZ hK30 (c_seq fun _ hK32 => ?_); refine c_block (cR fun _ hK33 => ?_); refine oA (oZ hK33 (c_seq fun _ hK34 => ?_)); refine cR fun _ hK35 => ?_; refine oA (oZ hK35 (c_block ?_)); refine c_loop5 (fun (k : Nat) (ac : Option Addr) (cc : Nat) (cs : List Sp) (Sc : Hp) => k ≤ gcn re ∧ cs.length = k ∧ cs = List.replicate k noS ∧ OwnS Esp 2 45 (.slice ac cs.length cc) cs Sc) (fun (k : Nat) (ac : Option Addr) (cc : Nat) (cs : List Sp) (Sc : Hp) => [(13, .int .i64 k), (12, .slice ac cs.length cc)]) [(1, _), (4, _), (5, _), (6, _), (10, _), (11, _), (65, _), (66, _), (67, _), (70, _), (71, _), (72, _), (73, _), (74, _), (75, _), (76, _), (77, _), (78, _), (79, _), (80, _)] (fun (k : Nat) (ac : Option Addr) (cc : Nat) (cs : List Sp) (Sc : Hp) => (b26, .cells [.slice ra re.length rc, .int .i64 (n : Nat), .slice ha hl.length hc, .int .i64 lf].toArray 144 (0, 0)) :: (Sh ++ Sc)) (fun (k : Nat) (ac : Option Addr) (cc : Nat) (cs : List Sp) (Sc : Hp) => gcn re - k) 0 none 0 [] [] ⟨Nat.zero_le _, rfl, rfl, .nil⟩ sbA sbA hzB ?_
         rintro k ac cc cs Sc ⟨hk, hcl, hcR, hOc⟩
         refine c_seq fun _ hK36 => ?_; refine cR fun _ hK37 => ?_; refine oM (oM ?_); refine oS (s_lss rfl rfl) ?_; refine oZ hK37 ?_; refine c_if rfl (fun hkN => ?_) (fun hkN => ?_)
         ·refine c_skip (xZ hK36 (c_seq fun _ hK38 => ?_)); refine c_block (c_region (oM ?_)); refine oS (s_build (cs := [_, _]) (vs := [_, _]) rfl rfl (.cons rfl rfl rfl rfl rfl (.cons rfl rfl rfl rfl rfl (.nil)))) ?_; refine o_bs (E := Esp) (xs := [noS]) (vs := [_]) rfl rfl rfl rfl rfl (by decide) (by decide) fun b90 S90 hS90 => ?_; refine o_app hOc (hS90.rdk hiA) rfl rfl rfl rfl (by simp only [List.length_singleton]; omega) (by simp only [List.length_singleton]; omega) rfl pkA fun a91 c91 S91 hS91 => ?_; refine oA (o_nil (x_block (xZ hK38 (c_region (oM ?_))))); refine oS sD (oA (o_nil ?_)); exact xI (k + 1, a91, c91, cs ++ [noS], S91) ⟨by dsimp only; omega, by simp [hcl], by dsimp only; rw [hcR, ← List.replicate_succ'], hS91⟩
         ·obtain rfl : k = gcn re := by omega
          have hcN : cs.length = gcn re := hcl
          refine c_exit ?_; refine x_then_exit (x_then_exit (x_block_exit (xZ hK34 (c_region (oM (oM (oM (oM ?_)))))))); refine o_call ((tally_allV (⟨b26, ra, rc, re, n, ha, hc, hl, gcn re⟩ : TalE) hK 262145).1 x ks 0 _ hroot p j (by omega) (show j ≤ n by omega) ⟨ac, cc, cs⟩ Sc ⟨hcN, hOc.sl, hOc.rds⟩ lf (by omega) (by omega) (by omega)) rfl rfl rfl ((Pick.takeC pkA pkA)) (fun _ st => ⟨(RdK.old0 hw).out _ st, St.apart_M st (by exact hiB) hw Apart.nil (by decide), (hOh.rdk hiA).out _ st, St.apart st (Pick.takeC pkA pkA) hOh hiA⟩) (fun v96 S96 ⟨a96, c96, zs96, Sz96, New96, lf96, hv96, hS96, hO96, hP96, hk96, hl96, hb96, hC96⟩ => ?_); subst hv96
          subst hS96; refine o_nil (x_block (xZ hK32 (c_region (oM ?_)))); refine oS sU (oA (o_nil ?_))
          have hLn : 0 ≤ lf96 → LAcc n x ks (List.replicate (gcn re) noS) (prs n p ++ rowP n p (ends ((j : Int) - 1 + 1).toNat n)) (262144 - lf96) := fun h0 => by
            have h1 := hLB (by omega)
            rw [show ((j : Int) + 1).toNat = j + 1 by omega] at h1
            have h2 := hC96 h0
            have hcr : cs = List.replicate (gcn re) noS := hcR
            rw [hcr] at h2
            rw [show ((j : Int) - 1 + 1).toNat = j by omega, rowP_snoc (by omega), ← List.append_assoc, show 262144 - lf96 = (262144 - lf) + (lf - lf96) by omega]
            exact h1.snoc h2
          exact x_then (x_inv ((j : Int) - 1, lf96) ⟨by dsimp only; omega, by dsimp only; omega, hb96, by dsimp only; omega, hLn⟩ (by dsimp only; omega) sbA hzB)
        ·refine oS geF ?_; refine oS sT (oZ hK31 ?_); refine cF ?_; refine c_exit ?_; refine x_then_exit (x_then_exit (x_block_exit (x_block (xZ hK28 (c_region (oM ?_)))))); refine oS sD (oA (o_nil ?_))
         have hLn : 0 ≤ lf → LAcc n x ks (List.replicate (gcn re) noS) (prs n (p + 1)) (262144 - lf) := fun h0 => by first | exact absurd h0 (by omega) | (have h1 := hLB h0; rw [prs_succ]; rw [show (jz + 1).toNat = p by omega] at h1; exact h1)
         exact xI (p + 1, lf) ⟨by dsimp only; omega, hlo, hhi, hLn⟩
       ·refine oS geF (oM ?_); refine oN ?_; refine oN ?_; refine oN ?_; refine oN ?_; refine oN ?_; refine oS sP (oZ hK31 ?_); refine cF ?_; refine c_exit ?_; refine x_then_exit (x_then_exit (x_block_exit (x_block (xZ hK28 (c_region (oM ?_)))))); refine oS sD (oA (o_nil ?_))
        have hLn : 0 ≤ lf → LAcc n x ks (List.replicate (gcn re) noS) (prs n (p + 1)) (262144 - lf) := fun h0 => by first | exact absurd h0 (by omega) | (have h1 := hLB h0; rw [prs_succ]; rw [show (jz + 1).toNat = p by omega] at h1; exact h1)
        exact xI (p + 1, lf) ⟨by dsimp only; omega, hlo, hhi, hLn⟩
      ·refine c_exit ?_; refine x_then_exit (x_then_exit (x_block_exit (xZ hK24 (cR fun _ hK39 => ?_)))); refine oM ?_; refine oS sN ?_; refine oS sF ?_; refine oS sL ?_; refine oS (s_max rfl rfl) ?_; refine oS sU (oA (oZ hK39 (c_ret ?_))); refine ?_; exact xR rfl rfl (⟨_, rfl, fun _ _ hk m hm => ⟨by omega, x, ks, hS, by obtain rfl : n = m := (by omega); have h1 := hLA (by omega); rw [show p = n + 1 by omega] at h1; exact h1.mono (by omega)⟩⟩)
theorem costlyV_fn (ra : Option Addr) (rc : Nat) (re : List Nd) (hre : ∀ x ∈ re, -128 ≤ x.op ∧ x.op < 128) (n : Int) : HL.Fn Tryd.prog 23 [.slice ra re.length rc, .int .i64 n] (fun W => Rd En W (.slice ra re.length rc) re) [] (fun v _ => ∃ b : Bool, v = .bool b ∧ (b = false → shapedB re = true → 0 ≤ n → Fits re n)) := by
  refine fn_of Tryd.func23 rfl rfl rfl fun w0 hw => ?_; refine cR fun _ hK1 => ?_; refine oA (oZ hK1 (cR fun _ hK2 => ?_)); refine oM (oM ?_); refine o_callP (lookedV_fn ra rc re hre n) rfl rfl rfl (fun _ st => (RdK.old0 hw).out _ st) (fun v7 ⟨k, hv7, hF⟩ => ?_); subst hv7
  refine oS (s_gtr rfl rfl) ?_; refine oA (oZ hK2 (c_ret ?_)); refine ?_; exact xR rfl rfl (⟨_, rfl, fun hb hs hn => hF hs hn (by have h := of_decide_eq_false hb; omega)⟩)
def C0 (re : List Nd) : Caps := List.replicate (gcn re) noS
def BNone (w : List UInt8) (x : Nd) (ks : F) (c0 : Caps) (p : Nat) : Prop := ∀ i j, p ≤ i → i ≤ j → j ≤ w.length → LF1 w x ks i j c0 = []
structure BSome (w : List UInt8) (x : Nd) (ks : F) (c0 : Caps) (p i j : Nat) (c : Caps) : Prop where
  lo : p ≤ i
  ij : i ≤ j
  hi : j ≤ w.length
  hd : (LF1 w x ks i j c0).head? = some c
  fst : ∀ i' j', p ≤ i' → i' < i → i' ≤ j' → j' ≤ w.length → LF1 w x ks i' j' c0 = []
  lng : ∀ j', j < j' → j' ≤ w.length → LF1 w x ks i j' c0 = []
  len : c.length = c0.length
  ok : ∀ s ∈ c, s = noS ∨ (0 ≤ s.fr ∧ s.fr ≤ s.to ∧ s.to ≤ w.length)
def BkP (re : List Nd) (w : List UInt8) (p : Int) (v : Value) (S' : Hp) : Prop :=
  (shapedB re = false ∧ v = .tuple #[.slice none 0 0, .bool false, .int .i64 49] ∧ S' = []) ∨ (shapedB re = true ∧ ¬ (0 ≤ p ∧ p ≤ w.length) ∧ v = .tuple #[.slice none 0 0, .bool false, .int .i64 1] ∧ S' = []) ∨
  (shapedB re = true ∧ ∃ m : Nat, p = m ∧ m ≤ w.length ∧ ∃ x ks, Shp re x ks ∧ ((BNone w x ks (C0 re) m ∧ v = .tuple #[.slice none 0 0, .bool false, .int .i64 0] ∧ S' = []) ∨
    ∃ (i j : Nat) (c : Caps) (a : Option Addr) (cc : Nat), BSome w x ks (C0 re) m i j c ∧ v = .tuple #[.slice a (gcn re + 1) cc, .bool true, .int .i64 0] ∧ OwnS Esp 2 45 (.slice a (gcn re + 1) cc) (⟨(i : Nat), (j : Nat)⟩ :: c) S'))
structure QI (K : BkE) (f : Nat) (q : BkS) (rest : Nat) : Prop where
  rep : K.Rep q
  fin : Fin K.sr q.S
  inv : Inv K.sr K.N q.S
  cs : q.S.cs = noS :: C0 K.re
  wk : q.S.wk + rest ≤ 786432
  f1 : f ≤ q.S.fuel + q.S.wk
  f2 : q.S.fuel ≤ f
  sz : q.S.sz ≤ (K.sr.cR + 2) * q.S.wk
theorem qi_start {K : BkE} {s : BkS} {f rest : Nat} (hR : K.Rep s) (hN : K.N = gcn K.re) (hs : s.S = ⟨[], [], [], List.replicate (gcn K.re + 1) noS, f, 0⟩) (hr : rest ≤ 786432) : QI K f s rest := by
  refine ⟨hR, ?_, ?_, by rw [hs]; exact List.replicate_succ, by rw [hs]; show 0 + rest ≤ _; omega, by rw [hs]; exact Nat.le_refl _, by rw [hs]; exact Nat.le_refl _, by rw [hs]; exact Nat.zero_le _⟩
  · rw [hs]
    exact ⟨fun _ h => (by cases h), fun k g h => (by simp at h), fun z hz => .inl (List.eq_of_mem_replicate hz)⟩
  · rw [hs]
    exact ⟨fun k g h => (by simp at h), List.nodup_nil, fun _ h => (by cases h)⟩
theorem c0_ok {K : BkE} (hN : K.N = gcn K.re) : CapOk K.sr K.N (C0 K.re) := ⟨by rw [C0, List.length_replicate, hN], fun s hs => .inl (List.eq_of_mem_replicate hs)⟩
theorem sz_ok {K : BkE} (hK : K.ok) {S : SS} (h : S.sz ≤ (K.sr.cR + 2) * S.wk) (hw : S.wk ≤ 786432) : Sz S := by
  have h1 : K.sr.cR ≤ 250001 := by
    have h2 := hK.Rl
    show (K.R.length + 3) / 4 ≤ _
    omega
  have h2 : (K.sr.cR + 2) * S.wk ≤ 250003 * 786432 := Nat.mul_le_mul (by omega) hw
  unfold SS.sz at h
  exact ⟨by omega, by omega⟩
theorem qi_step {K : BkE} (hK : K.ok) (hN : K.N = gcn K.re) {f : Nat} {q : BkS} {rest k : Nat} (h : QI K f q (k + rest)) (hf : 786432 ≤ f) {x : Nd} {ks : F} {e0 i j : Nat} {Z : List Caps} (hp : Part K.re (.nd x ks .nil) 0 e0) (hij : i ≤ j) (hj : j ≤ K.w.length) (hc : Ct K.w.length (.node x ks i j (C0 K.re)) Z k) :
    ∃ b S', Ev K.sr q.S (.take 0 i j 0) b S' ∧ Sz S' ∧ (∀ q' : BkS, K.Rep q' → Fin K.sr q'.S → q'.S = S' → (b = true → ∃ r, (LF1 K.w x ks i j (C0 K.re)).head? = some r ∧ CapOk K.sr K.N r ∧ q'.S.cs = noS :: r) ∧ (b = false → LF1 K.w x ks i j (C0 K.re) = [] ∧ QI K f q' rest)) := by
  obtain ⟨hR, hF, hI, hcs, hwk, hf1, hf2, hsz⟩ := h
  obtain ⟨b, S', hE, hI', hw', hy, hn⟩ := take_ok hK.ok hc hp hij hj (c0_ok hN) hI hcs (by omega)
  obtain ⟨g1, g2, g3⟩ := hE.grow
  have hm := hE.mono
  have hsl : K.sr.slack (.take 0 i j 0) = 0 := rfl
  have hmul : (K.sr.cR + 2) * q.S.wk + (K.sr.cR + 2) * (S'.wk - q.S.wk) = (K.sr.cR + 2) * S'.wk := by rw [← Nat.mul_add, show q.S.wk + (S'.wk - q.S.wk) = S'.wk by omega]
  have hsz' : S'.sz ≤ (K.sr.cR + 2) * S'.wk := by omega
  refine ⟨b, S', hE, sz_ok hK hsz' (by omega), fun q' hR' hF' he => ⟨fun hb => ?_, fun hb => ?_⟩⟩
  · rw [he]; exact hy hb
  · obtain ⟨h1, h2⟩ := hn hb
    exact ⟨h1, hR', hF', by rw [he]; exact hI', by rw [he, h2]; exact hcs, by rw [he]; omega, by rw [he]; omega, by rw [he]; have := hm.fuel; omega, by rw [he]; exact hsz'⟩
set_option maxHeartbeats 4000000 in
theorem bFind_fn (ra : Option Addr) (rc : Nat) (re : List Nd) (hre : ∀ x ∈ re, -128 ≤ x.op ∧ x.op < 128) (ta : Option Addr) (tc : Nat) (w : List UInt8) (hrl : re.length ≤ 1000000) (hwl : w.length ≤ 1000000) (p : Int) (f : Nat) (hf : 786432 ≤ f) (hf2 : f ≤ 9223372036854775807) (hfit : shapedB re = true → Fits re w.length) : HL.Fn Tryd.prog 16 [.slice ra re.length rc, .slice ta w.length tc, .int .i64 p, .int .i64 (f : Nat)] (fun W => Rd En W (.slice ra re.length rc) re ∧ Rd Eb W (.slice ta w.length tc) w ∧ RdP W 0 0 (Esp noS)) [] (BkP re w p) := by
  refine fn_of Tryd.func16 rfl rfl rfl fun w0 hw => ?_; refine cR fun _ hK1 => ?_; refine oA (oA (oA (oZ hK1 (c_seq fun _ hK2 => ?_)))); refine cR fun _ hK3 => ?_; refine oM ?_; refine o_callP (shaped_fn ra rc re hre) rfl rfl rfl (fun w st => (RdK.old0 hw.1).out w st) (fun v16 hv16 => ?_); subst hv16
  cases hsb : shapedB re
  ·refine oS (s_not rfl) ?_; refine oZ hK3 ?_; refine cT (cR fun _ hK4 => ?_); refine oA (oA (oA (oZ hK4 (c_ret ?_)))); refine x_then_ret (?_); refine x_sub (Sub.refl _) (H' := []) hzB ?_; exact x_ret rfl (.tmp rfl (.tmp rfl (.tmp rfl (.nil)))) (.inl ⟨hsb, rfl, rfl⟩)
  ·obtain ⟨hw60, x, ks, hS, cost, hct, hsum⟩ := hfit hsb w.length rfl
   refine oS (s_not rfl) ?_; refine oZ hK3 ?_; refine cFZ hK2 (c_seq fun _ hK5 => ?_); refine cR fun _ hK6 => ?_; refine oM ?_
   by_cases hp0 : p < 0
   ·refine oS lsT (oM ?_); refine oN ?_; refine oN ?_; refine oN ?_; refine oN ?_; refine oS sT (oM ?_); refine oN ?_; refine oN ?_; refine oS sT (oZ hK6 ?_); refine cT (cR fun _ hK7 => ?_); refine oA (oA (oA (oZ hK7 (c_ret ?_)))); refine x_then_ret (?_); refine x_sub (Sub.refl _) (H' := []) hzB ?_; exact x_ret rfl (.tmp rfl (.tmp rfl (.tmp rfl (.nil)))) (.inr (.inl ⟨hsb, fun h => by omega, rfl, rfl⟩))
   ·obtain ⟨m, rfl⟩ : ∃ m : Nat, p = m := ⟨p.toNat, by omega⟩
    refine oS lsF (oM ?_); refine oY (oM ?_); refine oY (oM ?_); refine oY ?_; refine oS sC ?_; refine oY ?_
    by_cases hpl : (m : Int) > w.length
    ·refine oS gtT ?_; refine oS sP (oM ?_); refine oN ?_; refine oN ?_; refine oS sT (oZ hK6 ?_); refine cT (cR fun _ hK8 => ?_); refine oA (oA (oA (oZ hK8 (c_ret ?_)))); refine x_then_ret (?_); refine x_sub (Sub.refl _) (H' := []) hzB ?_; exact x_ret rfl (.tmp rfl (.tmp rfl (.tmp rfl (.nil)))) (.inr (.inl ⟨hsb, fun h => by omega, rfl, rfl⟩))
    ·refine oS gtF ?_; refine oS sP (oM ?_); refine oY (oM ?_); refine oY ?_; refine oS lsF ?_; refine oS sP (oZ hK6 ?_); refine cFZ hK5 (cR fun _ hK9 => ?_); refine oM (oM (oM ?_)); refine o_call (startK_fn ra rc re hre ta tc w hrl hwl hsb f) rfl rfl rfl (by exact .nil) (fun w st => ⟨(RdK.old0 hw.1).out w st, (RdPK.old0 hw.2.2).out w st⟩) (fun v33 S33 ⟨K, s0, Sb, SX, hv33, hS33, ⟨q1, q2, q3, q4, q5, q6, hN⟩, hOb, hOX, hK, hR0, hs0⟩ => ?_)
     subst q1; subst q2
     subst q3; subst q4
     subst q5; subst q6
     subst hv33; subst hS33
     have hroot : Part K.re (.nd x ks .nil) 0 K.re.length := hS.part
     have hat : 0 < K.re.length := (List.getElem?_eq_some_iff.1 hroot.head.1).1
     have hq0 : QI K f s0 (rsum cost K.w.length (K.w.length + 1 - m)) := qi_start hR0 hN hs0 (by have := rsum_le (cost := cost) (n := K.w.length) (m := K.w.length + 1 - m) (by omega); omega)
     refine oA (oZ hK9 (c_seq fun _ hK10 => ?_)); refine cR fun _ hK11 => ?_; refine oM (oA (oZ hK11 (c_block ?_)))
     -- not carried: 8 9 10
     refine c_loop2 (fun (q : BkS) (i : Nat) => QI K f q (rsum cost K.w.length (K.w.length + 1 - i)) ∧ m ≤ i ∧ i ≤ K.w.length + 1 ∧ (∀ i2 j2, m ≤ i2 → i2 < i → i2 ≤ j2 → j2 ≤ K.w.length → LF1 K.w x ks i2 j2 (C0 K.re) = [])) (fun (q : BkS) (i : Nat) => [(12, .int .i64 i)]) [(1, _), (11, _)] (fun (q : BkS) (i : Nat) => ((K.obj q) :: K.tl q) ++ (Sb ++ SX)) (fun (q : BkS) (i : Nat) => K.w.length + 1 - i) s0 m ⟨hq0, Nat.le_refl _, by omega, fun _ _ h1 h2 => absurd h2 (by omega)⟩ sbA sbA hzB ?_
     rintro q i ⟨hQ, hmi, hil, hno⟩
     refine c_seq fun _ hK12 => ?_; refine cR fun _ hK13 => ?_; refine oM (oM ?_); refine oS sC ?_
     by_cases hin : (i : Int) ≤ K.w.length
     ·refine oS leT (oZ hK13 ?_); refine cTZ hK12 (c_seq fun _ hK14 => ?_); refine c_block (cR fun _ hK15 => ?_); refine oM ?_; refine oS sC (oA (oZ hK15 (c_block ?_))); refine c_loop2 (fun (q : BkS) (e : Int) => QI K f q (((dwn i e).map (cost i)).sum + rsum cost K.w.length (K.w.length - i)) ∧ e ≤ K.w.length ∧ -1 ≤ e ∧ (∀ j2 : Nat, e < j2 → j2 ≤ K.w.length → LF1 K.w x ks i j2 (C0 K.re) = [])) (fun (q : BkS) (e : Int) => [(13, .int .i64 e)]) [(1, _), (11, _), (12, _), (35, _), (36, _), (37, _), (38, _), (41, _), (42, _)] (fun (q : BkS) (e : Int) => ((K.obj q) :: K.tl q) ++ (Sb ++ SX)) (fun (q : BkS) (e : Int) => (e + 1).toNat) q K.w.length ⟨by rw [dwn_ends]; rw [show K.w.length + 1 - i = (K.w.length - i) + 1 by omega, rsum, show K.w.length - (K.w.length - i) = i by omega] at hQ; exact hQ, Int.le_refl _, by omega, fun j2 h1 h2 => absurd h1 (by omega)⟩ sbA sbA hzB ?_
      rintro q e ⟨hQ, hel, hel1, hnj⟩
      refine c_seq fun _ hK16 => ?_; refine cR fun _ hK17 => ?_; refine oM (oM ?_)
      by_cases hei : e ≥ (i : Int)
      ·obtain ⟨j, rfl⟩ : ∃ m : Nat, e = (m : Int) := ⟨e.toNat, by omega⟩
       have hij : i ≤ j := by omega
       have hj : j ≤ K.w.length := by omega
       rw [dwn_cons hij, List.map_cons, List.sum_cons, Nat.add_assoc] at hQ
       obtain ⟨Z, hcz⟩ := hct (i, j) (mem_prs (by omega) hij hj)
       obtain ⟨b, S1, hE, hz1, hans⟩ := qi_step hK hN hQ hf hroot hij hj hcz
       refine oS geT (oZ hK17 ?_); refine cTZ hK16 (c_seq fun _ hK18 => ?_); refine c_block (cR fun _ hK19 => ?_); refine oM (oM (oM ?_)); refine oS (s_build (cs := [_, _]) (vs := [_, _]) rfl rfl (.cons rfl rfl rfl rfl rfl (.cons rfl rfl rfl rfl rfl (.nil)))) ?_; refine o_call (takeB_all hK 9223372036854775807 (Nat.le_refl _) q 0 i j 0 b S1 hQ.rep hQ.fin hat hij hj (Nat.zero_le _) hE (Nat.le_trans hQ.f2 hf2) hz1) rfl rfl rfl pkA (fun w st => ⟨(RdK.old0 hw.1).out w st, st.apart_M (hin_cons meA (hin_cons meA (hin_cons meA (hin_cons meA (hin_app hiA hiA))))) hw.1 Apart.nil (by decide), (RdK.old0 hw.2.1).out w st, st.apart_M (hin_cons meA (hin_cons meA (hin_cons meA (hin_cons meA (hin_app hiA hiA))))) hw.2.1 Apart.nil (by decide), (hOb.rdk hiA).out w st, st.apart (S := ((K.obj q) :: K.tl q)) pkA hOb hiA, (hOX.rdk hiA).out w st, st.apart (S := ((K.obj q) :: K.tl q)) pkA hOX hiA, (RdPK.old0 hw.2.2).out w st, st.notin (hin_cons meA (hin_cons meA (hin_cons meA (hin_cons meA (hin_app hiA hiA))))) hw.2.2 (by simp [Esp]) (by intro h; cases h)⟩) (fun v52 S52 ⟨q2, hv52, hS52, hR2, hF2, he2⟩ => ?_)
       subst hv52; subst hS52
       cases b
       ·obtain ⟨hlf, hQ2⟩ := (hans q2 hR2 hF2 he2).2 rfl
        refine oA (oZ hK19 (c_block (cR fun _ hK20 => ?_))); refine oM ?_; refine oS sN ?_; refine oS sF ?_; refine oS sL (oA (oZ hK20 ?_)); refine cF (cR fun _ hK21 => ?_); refine oM (oA (oZ hK21 ?_)); refine cF (c_skip (x_block (x_block (xZ hK18 (c_region (oM ?_)))))); refine oS sU (oA (o_nil ?_)); exact xI (q2, (j : Int) - 1) ⟨hQ2, by dsimp only; omega, by dsimp only; omega, fun j2 h1 h2 => if h : (j : Int) < j2 then hnj j2 h h2 else (by have e9 : j2 = j := (by dsimp only at h1; omega); subst e9; exact hlf)⟩
       ·obtain ⟨r, hhd, hcr, hcs2⟩ := (hans q2 hR2 hF2 he2).1 rfl
        have hO2 := hR2.sp
        rw [hcs2] at hO2
        have hsl2 := hO2.sl
        have hrl2 : (noS :: r).length = K.N + 1 := by rw [List.length_cons, hcr.len]
        rw [hrl2] at hsl2
        refine oA (oZ hK19 (c_block (cR fun _ hK22 => ?_))); refine oM ?_; refine oS sN ?_; refine oS sF ?_; refine oS sL (oA (oZ hK22 ?_)); refine cF (cR fun _ hK23 => ?_); refine oM (oA (oZ hK23 ?_)); refine cT (cR fun _ hK24 => ?_); refine oM ?_; refine oS sN ?_; refine oS sF ?_; refine oS sL (oM (oM ?_)); refine oS (s_build (cs := [_, _]) (vs := [_, _]) rfl rfl (.cons rfl rfl rfl rfl rfl (.cons rfl rfl rfl rfl rfl (.nil)))) ?_; refine oS (s_idx rfl rfl hsl2 (by omega)) ?_; refine o_stSE 0 ⟨(i : Nat), (j : Nat)⟩ hO2 pkA rfl rfl (by rw [hrl2]; omega) (by rfl) fun S' hS' => ?_; refine oZ hK24 (cR fun _ hK25 => ?_); refine oM ?_; refine oS sN ?_; refine oS sF ?_; refine oS sL (oA (oA (oA (oZ hK25 (c_ret ?_))))); refine x_block_ret (x_block_ret (x_then_ret (x_then_ret (x_block_ret (x_block_ret (x_then_ret (x_then_ret (x_block_ret (x_then_ret (?_))))))))))
        refine x_sub (Sub.refl _) (H' := S') hzB ?_; exact x_ret rfl (.tmp rfl (.tmp rfl (.tmp rfl (.nil)))) (.inr (.inr ⟨hsb, m, rfl, by omega, x, ks, hS, .inr ⟨i, j, r, K.sa, K.sc, ⟨hmi, hij, hj, hhd, hno, fun j2 h1 h2 => hnj j2 (by omega) h2, by rw [hcr.len, hN, C0, List.length_replicate], hcr.ok⟩, by rw [hN]; rfl, by rw [← hN]; exact hS'⟩⟩))
      ·rw [dwn_nil hei, List.map_nil, List.sum_nil, Nat.zero_add] at hQ
       refine oS geF (oZ hK17 ?_); refine cF ?_; refine c_exit ?_; refine x_then_exit (x_then_exit (x_block_exit (x_block (xZ hK14 (c_region (oM ?_)))))); refine oS sD (oA (o_nil ?_)); exact xI (q, i + 1) ⟨by dsimp only; rw [show K.w.length + 1 - (i + 1) = K.w.length - i by omega]; exact hQ, by dsimp only; omega, by dsimp only; omega, fun i2 j2 h1 h2 h3 h4 => if h : i2 < i then hno i2 j2 h1 h h3 h4 else (by have e9 : i2 = i := (by dsimp only at h2; omega); subst e9; exact hnj j2 (by omega) h4)⟩
     ·obtain rfl : i = K.w.length + 1 := by omega
      refine oS leF (oZ hK13 ?_); refine cF ?_; refine c_exit ?_; refine x_then_exit (x_then_exit (x_block_exit (xZ hK10 (cR fun _ hK26 => ?_)))); refine oA (oA (oA (oZ hK26 (c_ret ?_)))); refine ?_; refine x_sub (Sub.refl _) (H' := []) hzB ?_; exact x_ret rfl (.tmp rfl (.tmp rfl (.tmp rfl (.nil)))) (.inr (.inr ⟨hsb, m, rfl, by omega, x, ks, hS, .inl ⟨fun i2 j2 h1 h2 h3 => hno i2 j2 h1 (by omega) h2 h3, rfl, rfl⟩⟩))
end Go.Proofs.YtloepfcndglmmaaDoor
namespace Go.HL.Kl.Mc
open Go Go.HL Go.HL.Kl AskE
structure WalkE where
  (bW : Nat)
  (ra : Option Addr) (rc : Nat) (re : List Nd) (ta : Option Addr) (tc : Nat) (tx : List UInt8) (ca : Option Addr) (N cc : Nat)
namespace WalkE
abbrev vre (K : WalkE) : Value := .slice K.ra K.re.length K.rc
abbrev vtx (K : WalkE) : Value := .slice K.ta K.tx.length K.tc
abbrev vca (K : WalkE) : Value := .slice K.ca K.N K.cc
abbrev cells (K : WalkE) : List Value := [K.vre, K.vtx, K.vca]
end WalkE
structure EnvW (w : World) (K : WalkE) (M : List Nat) : Prop where
  p1 : RdP w K.bW 0 K.cells
  d1 : Rd En w K.vre K.re
  d2 : Rd Eb w K.vtx K.tx
  n1 : K.bW ∉ M
  a1 : Apart M K.vre
  a2 : Apart M K.vtx
structure WalkE.ok (K : WalkE) : Prop where
  rng : ∀ x ∈ K.re, -128 ≤ x.op ∧ x.op < 128
  no8 : ∀ x ∈ K.re, ¬ x.op = 8
  len : K.re.length ≤ 1000000
  tx : K.tx.length ≤ 1000000
def BestK (P : Program) (K : WalkE) (fn T : Nat) (x : Nd) (ks : F) : Prop := ∀ (i i1 p q : Nat) (cs : List Sp) (Sc : Hp), Part K.re (.nd x ks .nil) i i1 → p ≤ q → q ≤ K.tx.length → der1 K.tx x ks p q → cs.length = K.N → Slots K.re K.N → OwnS Esp 2 T K.vca cs Sc →
  Fn P fn [pt K.bW, .int .i64 i, .int .i64 p, .int .i64 q] (fun W => EnvW W K (keys Sc)) Sc (fun _ S' => OwnS Esp 2 T K.vca (bst1 K.tx x ks p q cs) S')
def CapR (x : Nd) (r s : Nat) : Prop := r = s ∨ (x.mx = -1 ∧ max x.mn.toNat 1 ≤ r ∧ s = max x.mn.toNat 1)
end Go.HL.Kl.Mc
namespace Go.HL
open Go
end Go.HL
namespace Go.HL.Kl.Mc
open Go Go.HL Go.HL.Kl
def FRes (re : List Nd) (w : List UInt8) (f : Int) (b : Bool) (L : List Sp) : Prop :=
  (∃ x ks, ∃ g p q : Nat, May re w x ks ∧ f = g ∧ Lft w x ks g p q ∧ b = true ∧ L = capsV w re x ks p q) ∨
  ((¬ ∃ x ks, ∃ g p q : Nat, May re w x ks ∧ f = g ∧ g ≤ p ∧ q ≤ w.length ∧ der1 w x ks p q) ∧ b = false ∧ L = [])
def BRes (re : List Nd) (w : List UInt8) (fr to : Int) (b : Bool) (L : List Sp) : Prop :=
  (∃ x ks, ∃ p q : Nat, May re w x ks ∧ fr = p ∧ to = q ∧ p ≤ q ∧ q ≤ w.length ∧ der1 w x ks p q ∧ b = true ∧ L = capsV w re x ks p q) ∨
  ((¬ ∃ x ks, ∃ p q : Nat, May re w x ks ∧ fr = p ∧ to = q ∧ p ≤ q ∧ q ≤ w.length ∧ der1 w x ks p q) ∧ b = false ∧ L = [])
def spB (j : Nat) : UInt8 := UInt8.ofNat (279 + 7 * j + 3)
def xor3 (x : UInt8) : UInt8 := UInt8.ofNat (BitVec.ofInt 8 (x.toNat : Int) ^^^ BitVec.ofInt 8 3).toNat
end Go.HL.Kl.Mc
namespace Go.HL.Kl.Mc
open Go Go.HL Go.HL.Kl AskE
structure GoodL (n at_ : Nat) (L : List Sp) (p q : Nat) : Prop where
  hd : L[0]? = some ⟨p, q⟩
  ge : at_ ≤ p
  le : p ≤ q
  ln : q ≤ n
  all : ∀ s ∈ L, s = noS ∨ (0 ≤ s.fr ∧ s.fr ≤ s.to ∧ s.to ≤ n)
  len : L.length ≤ 4294967296
inductive MtS {σ : Type} (stp : σ → Nat → Bool → List Sp → σ → Prop) (n : Nat) : σ → Nat → Int → List (List Sp) → Prop
  | out {s : σ} {a : Nat} {last : Int} (h : n < a) : MtS stp n s a last []
  | none {s s' : σ} {a : Nat} {last : Int} (h : a ≤ n) (hs : stp s a false [] s') : MtS stp n s a last []
  | skip {s s' : σ} {a p : Nat} {last : Int} {L : List Sp} {xs : List (List Sp)} (h : a ≤ n) (hs : stp s a true L s') (hg : GoodL n a L p p) (hl : last = p) (hr : MtS stp n s' (a + 1) last xs) : MtS stp n s a last xs
  | take {s s' : σ} {a p q : Nat} {last : Int} {L : List Sp} {xs : List (List Sp)} (h : a ≤ n) (hs : stp s a true L s') (hg : GoodL n a L p q) (hl : ¬ (p = q ∧ last = p)) (hr : MtS stp n s' q q xs) : MtS stp n s a last (L :: xs)
inductive ChL (n : Nat) : Nat → Int → List (List Sp) → Prop
  | nil {a : Nat} {last : Int} : ChL n a last []
  | cons {a p q : Nat} {last : Int} {L : List Sp} {xs : List (List Sp)} (hg : GoodL n a L p q) (hl : ¬ (p = q ∧ last = p)) (hr : ChL n q q xs) : ChL n a last (L :: xs)
def stpR (re : List Nd) (w : List UInt8) (_ : Unit) (a : Nat) (b : Bool) (L : List Sp) (_ : Unit) : Prop := FRes re w (a : Int) b L
def Det {σ : Type} (stp : σ → Nat → Bool → List Sp → σ → Prop) : Prop := ∀ s a b L s' b2 L2 s2, stp s a b L s' → stp s a b2 L2 s2 → b = b2 ∧ L = L2 ∧ s' = s2
end Go.HL.Kl.Mc
namespace Go.Proofs.YtloepfcndglmmaaDoor
open Go Go.HL Go.Proofs Go.HL.Kl Go.HL.Kl.Mc Go.HL.Kl.Mc.AskE
theorem BSome.uniq {w : List UInt8} {x : Nd} {ks : F} {c0 : Caps} {p i j i' j' : Nat} {c c' : Caps} (h : BSome w x ks c0 p i j c) (h' : BSome w x ks c0 p i' j' c') : i = i' ∧ j = j' ∧ c = c' := by
  have ne : ∀ {l : List Caps} {d : Caps}, l.head? = some d → l ≠ [] := fun h e => by rw [e] at h; cases h
  have h1 : i = i' := by
    rcases Nat.lt_trichotomy i i' with hlt | he | hlt
    · exact absurd (h'.fst i j h.lo hlt h.ij h.hi) (ne h.hd)
    · exact he
    · exact absurd (h.fst i' j' h'.lo hlt h'.ij h'.hi) (ne h'.hd)
  subst h1
  have h2 : j = j' := by
    rcases Nat.lt_trichotomy j j' with hlt | he | hlt
    · exact absurd (h.lng j' hlt h'.hi) (ne h'.hd)
    · exact he
    · exact absurd (h'.lng j hlt h.hi) (ne h.hd)
  subst h2
  exact ⟨rfl, rfl, Option.some.inj (h.hd.symm.trans h'.hd)⟩
theorem BSome.not_none {w : List UInt8} {x : Nd} {ks : F} {c0 : Caps} {p i j : Nat} {c : Caps} (h : BSome w x ks c0 p i j c) : ¬ BNone w x ks c0 p := fun hn => by
  have h1 := h.hd
  rw [hn i j h.lo h.ij h.hi] at h1; cases h1
def BkRes (re : List Nd) (w : List UInt8) (f : Int) (b : Bool) (L : List Sp) : Prop :=
  (¬ (0 ≤ f ∧ f ≤ w.length) ∧ b = false ∧ L = []) ∨ ∃ (m : Nat) (x : Nd) (ks : F), f = m ∧ m ≤ w.length ∧ Shp re x ks ∧ ((BNone w x ks (C0 re) m ∧ b = false ∧ L = []) ∨ ∃ (i j : Nat) (c : Caps), BSome w x ks (C0 re) m i j c ∧ b = true ∧ L = ⟨(i : Nat), (j : Nat)⟩ :: c)
end Go.Proofs.YtloepfcndglmmaaDoor
namespace Go.HL.Kl.Mc
open Go Go.HL Go.HL.Kl
instance {n : Nat} {x : Nd} {c : Caps} {i j : Nat} : Decidable (goodT n x c i j) := by unfold goodT; infer_instance
abbrev CtR := Bool × List Caps × Nat
def gat1 (A : Nat → CtR) (B : Nat → Caps → CtR) (e : Nat) : CtR :=
  let a := A e
  let bs := a.2.1.map (B e)
  (a.1 && bs.all (fun b => b.1), bs.flatMap (fun b => b.2.1), a.2.2 + (bs.map (fun b => b.2.2 + 1)).sum)
def gath (es : List Nat) (A : Nat → CtR) (B : Nat → Caps → CtR) : CtR :=
  let l := es.map (gat1 A B)
  (l.all (fun r => r.1), l.flatMap (fun r => r.2.1), (l.map (fun r => r.2.2)).sum)
theorem gath_ok {es : List Nat} {A : Nat → CtR} {B : Nat → Caps → CtR} (h : (gath es A B).1 = true) {e : Nat} (he : e ∈ es) : (A e).1 = true ∧ ∀ c1 ∈ (A e).2.1, (B e c1).1 = true := by
  have h1 : (es.map (gat1 A B)).all (fun r => r.1) = true := h
  rw [List.all_map, List.all_eq_true] at h1
  have h2 : ((A e).1 && ((A e).2.1.map (B e)).all (fun b => b.1)) = true := h1 e he
  rw [Bool.and_eq_true, List.all_map, List.all_eq_true] at h2
  exact ⟨h2.1, fun c hc => h2.2 c hc⟩
theorem gath_mem {es : List Nat} {A : Nat → CtR} {B : Nat → Caps → CtR} {e : Nat} (he : e ∈ es) {c1 : Caps} (hc : c1 ∈ (A e).2.1) {d : Caps} (hd : d ∈ (B e c1).2.1) : d ∈ (gath es A B).2.1 := by
  show d ∈ (es.map (gat1 A B)).flatMap (fun r => r.2.1)
  rw [List.mem_flatMap]
  refine ⟨gat1 A B e, List.mem_map_of_mem he, ?_⟩
  show d ∈ ((A e).2.1.map (B e)).flatMap (fun b => b.2.1)
  rw [List.mem_flatMap]
  exact ⟨_, List.mem_map_of_mem hc, hd⟩
theorem gath_sum {es : List Nat} {A : Nat → CtR} {B : Nat → Caps → CtR} : sumW es (fun e => (A e).2.1) (fun e => (A e).2.2) (fun e c1 => (B e c1).2.2) = (gath es A B).2.2 := by
  show _ = ((es.map (gat1 A B)).map (fun r => r.2.2)).sum
  rw [List.map_map]
  unfold sumW
  congr 1
  refine List.map_congr_left fun e _ => ?_
  show _ = (A e).2.2 + (((A e).2.1.map (B e)).map (fun b => b.2.2 + 1)).sum
  rw [List.map_map]; rfl
def ctF (n : Nat) : Nat → TQ → CtR
  | 0, _ => (false, [], 0)
  | f + 1, .node x ks i j c =>
    if x.op = 1 ∨ x.op = 2 ∨ x.op = 3 ∨ x.op = 8 then (true, if goodT n x c i j then [c] else [], 1)
    else if x.op = 4 then (let r := ctF n f (.row ks i j c); (r.1, r.2.1, r.2.2 + 2))
    else if x.op = 6 then (match ks with
      | .nd y js .nil => let r := ctF n f (.rnd x y js 0 i j c); (r.1, r.2.1, r.2.2 + 2)
      | _ => (false, [], 0))
    else if x.op = 7 then (match ks with
      | .nd y js .nil => let r := ctF n f (.node y js i j (emp (F.nd y js .nil).flat c)); (r.1, r.2.1.map (fun d => d.set (x.n.toNat - 1) ⟨i, j⟩), r.2.2 + r.2.1.length + 1)
      | _ => (false, [], 0))
    else if x.op = 5 then (let r := ctF n f (.alt ks i j c); (r.1, r.2.1, r.2.2 + 1))
    else (false, [], 0)
  | _ + 1, .alt .nil _ _ _ => (true, [], 0)
  | f + 1, .alt (.nd y js r) i j c => let a := ctF n f (.node y js i j c); let b := ctF n f (.alt r i j c); (a.1 && b.1, a.2.1 ++ b.2.1, a.2.2 + b.2.2)
  | _ + 1, .row .nil i j c => (true, if i = j then [c] else [], 0)
  | f + 1, .row (.nd y js r) i j c => gath (if r.num = 0 then [j] else ends i j) (fun e => ctF n f (.node y js i e c)) (fun e c1 => ctF n f (.row r e j c1))
  | f + 1, .rnd x y js had i j c => let g := gath (rEs x had i j) (fun e => ctF n f (.node y js i e (emp (F.nd y js .nil).flat c))) (fun e c1 => ctF n f (.rnd x y js (had + 1) e j c1)); (g.1, g.2.1 ++ (if i = j ∧ x.mn ≤ (had : Int) then [c] else []), g.2.2)
theorem ctF_ok {n : Nat} : ∀ (f : Nat) (q : TQ), (ctF n f q).1 = true → Ct n q (ctF n f q).2.1 (ctF n f q).2.2
  | 0, _, h => by cases h
  | f + 1, .node x ks i j c, h => by
    unfold ctF at h ⊢
    by_cases h1 : x.op = 1 ∨ x.op = 2 ∨ x.op = 3 ∨ x.op = 8
    · rw [if_pos h1]
      exact .leaf h1 (fun hg => by rw [if_pos hg]; exact List.mem_cons_self) (Nat.le_refl _)
    rw [if_neg h1] at h ⊢
    by_cases h4 : x.op = 4
    · rw [if_pos h4] at h ⊢
      exact .cat h4 (ctF_ok f _ h) (Nat.le_refl _)
    rw [if_neg h4] at h ⊢
    by_cases h6 : x.op = 6
    · rw [if_pos h6] at h ⊢
      match ks, h with
      | .nd y js .nil, h => exact .rep h6 (ctF_ok f _ h) (Nat.le_refl _)
      | .nil, h => cases h
      | .nd _ _ (.nd _ _ _), h => cases h
    rw [if_neg h6] at h ⊢
    by_cases h7 : x.op = 7
    · rw [if_pos h7] at h ⊢
      match ks, h with
      | .nd y js .nil, h => exact .grp h7 (ctF_ok f _ h) (fun d hd => List.mem_map_of_mem hd) (Nat.le_refl _)
      | .nil, h => cases h
      | .nd _ _ (.nd _ _ _), h => cases h
    rw [if_neg h7] at h ⊢
    by_cases h5 : x.op = 5
    · rw [if_pos h5] at h ⊢
      exact .altC h5 (ctF_ok f _ h) (Nat.le_refl _)
    rw [if_neg h5] at h
    cases h
  | _ + 1, .alt .nil _ _ _, _ => .altNil
  | f + 1, .alt (.nd y js r) i j c, h => by
    have h' : ((ctF n f (.node y js i j c)).1 && (ctF n f (.alt r i j c)).1) = true := h
    rw [Bool.and_eq_true] at h'
    exact .altCons (ctF_ok f _ h'.1) (ctF_ok f _ h'.2) (fun d hd => List.mem_append_left _ hd) (fun d hd => List.mem_append_right _ hd) (Nat.le_refl _)
  | _ + 1, .row .nil i j c, _ => .rowNil fun e => by unfold ctF; rw [if_pos e]; exact List.mem_cons_self
  | f + 1, .row (.nd y js r) i j c, h => by
    unfold ctF at h ⊢
    exact .rowCons (es := if r.num = 0 then [j] else ends i j) rfl (fun e he => ctF_ok f _ (gath_ok h he).1) (fun e he c1 hc => ctF_ok f _ ((gath_ok h he).2 c1 hc)) (fun e he c1 hc d hd => gath_mem he hc hd) (Nat.le_of_eq gath_sum)
  | f + 1, .rnd x y js had i j c, h => by
    unfold ctF at h ⊢
    exact .rnd (es := rEs x had i j) rfl (fun e he => ctF_ok f _ (gath_ok h he).1) (fun e he c1 hc => ctF_ok f _ ((gath_ok h he).2 c1 hc)) (fun e he c1 hc d hd => List.mem_append_left _ (gath_mem he hc hd)) (fun e1 e2 => List.mem_append_right _ (by rw [if_pos ⟨e1, e2⟩]; exact List.mem_cons_self)) (Nat.le_of_eq gath_sum)
def accB (n f : Nat) (x : Nd) (ks : F) (c : Caps) (T : Nat) : Bool :=
  let l := (prs n (n + 1)).map fun p => ctF n f (.node x ks p.1 p.2 c)
  l.all (fun r => r.1) && decide ((l.map fun r => r.2.2).sum ≤ 3 * T)
theorem accB_ok {n f : Nat} {x : Nd} {ks : F} {c : Caps} {T : Nat} (h : accB n f x ks c T = true) : LAcc n x ks c (prs n (n + 1)) T := by
  have h' : ((((prs n (n + 1)).map fun p => ctF n f (.node x ks p.1 p.2 c)).all fun r => r.1) && decide ((((prs n (n + 1)).map fun p => ctF n f (.node x ks p.1 p.2 c)).map fun r => r.2.2).sum ≤ 3 * T)) = true := h
  rw [Bool.and_eq_true, List.all_map, List.all_eq_true, List.map_map, decide_eq_true_eq] at h'
  refine ⟨fun i j => (ctF n f (.node x ks i j c)).2.2, fun p hp => ⟨_, ctF_ok f _ (h'.1 p hp)⟩, ?_⟩
  have h2 := h'.2
  have e : ((prs n (n + 1)).map fun p => (ctF n f (.node x ks p.1 p.2 c)).2.2).sum = (((prs n (n + 1)).map ((fun r => r.2.2) ∘ fun p => ctF n f (.node x ks p.1 p.2 c)))).sum := rfl
  rw [e]
  omega
def catV : Nd := ⟨4, 0, 0, 0, 0, 3⟩
def refV : Nd := ⟨8, 0, 1, 0, 0, 0⟩
def reV : List Nd := [catV, grpC, starN, letN 97, letN 98, refV]
def ksV : F := .nd grpC (.nd starN (.nd (letN 97) .nil .nil) .nil) (.nd (letN 98) .nil (.nd refV .nil .nil))
def w6 : List UInt8 := [99, 97, 97, 98, 97, 99]
def w3 : List UInt8 := [97, 97, 97]
theorem shpV : Shp reV catV ksV := ⟨⟨by decide +kernel, rfl, ⟨by decide +kernel, rfl, wfW, let_ok' 98, rfl, trivial, by decide +kernel, rfl, trivial, trivial⟩, trivial⟩, rfl, by decide, by decide +kernel⟩
theorem shapedV : shapedB reV = true := shapedB_iff.2 ⟨⟨[true], by decide +kernel⟩, _, _, shpV⟩
theorem rngV : ∀ x ∈ reV, -128 ≤ x.op ∧ x.op < 128 := by simp [reV, catV, grpC, starN, letN, refV]
theorem gcnV : gcn reV = 1 := by decide +kernel
theorem accV6 : accB 6 40 catV ksV [noS] 262144 = true := by decide +kernel
theorem accV3 : accB 3 40 catV ksV [noS] 262144 = true := by decide +kernel
theorem lfV : LF1 w6 catV ksV 2 5 [noS] = [[⟨2, 3⟩]] := by decide +kernel
theorem lfV6 : ((List.range 7).all fun i => (List.range 7).all fun j => decide (2 ≤ i ∧ (i ≠ 2 ∨ j ≤ 5) ∨ LF1 w6 catV ksV i j [noS] = [])) = true := by decide +kernel
theorem lfV3 : ((List.range 4).all fun i => (List.range 4).all fun j => decide (LF1 w3 catV ksV i j [noS] = [])) = true := by decide +kernel
theorem lfV6n {i j : Nat} (hi : i ≤ 6) (hj : j ≤ 6) (h : ¬ (2 ≤ i ∧ (i ≠ 2 ∨ j ≤ 5))) : LF1 w6 catV ksV i j [noS] = [] := by
  have h1 := List.all_eq_true.1 (List.all_eq_true.1 lfV6 i (List.mem_range.2 (by omega))) j (List.mem_range.2 (by omega))
  exact (of_decide_eq_true h1).resolve_left h
theorem lfV3n {i j : Nat} (hi : i ≤ 3) (hj : j ≤ 3) : LF1 w3 catV ksV i j [noS] = [] := by
  have h1 := List.all_eq_true.1 (List.all_eq_true.1 lfV3 i (List.mem_range.2 (by omega))) j (List.mem_range.2 (by omega))
  exact of_decide_eq_true h1
def reE : List Nd := [letN 97]
theorem shpE : Shp reE (letN 97) .nil := ⟨⟨let_ok' 97, rfl, trivial, trivial⟩, rfl, by decide, by decide +kernel⟩
theorem shapedE : shapedB reE = true := shapedB_iff.2 ⟨⟨[], by decide +kernel⟩, _, _, shpE⟩
theorem rngE : ∀ x ∈ reE, -128 ≤ x.op ∧ x.op < 128 := by simp [reE, letN]
end Go.HL.Kl.Mc
