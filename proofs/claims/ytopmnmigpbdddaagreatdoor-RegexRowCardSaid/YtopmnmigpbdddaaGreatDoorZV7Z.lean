/- Part of the proofs over this seat: see the text that holds the theorem. Conditions: each theorem bears its own. -/
import Derived.Test.YtopmnmigpbdddaaGreatDoorHTZ
import Derived.Test.YtopmnmigpbdddaaGreatDoorZV5Z
import Derived.Test.YtopmnmigpbdddaaGreatDoorMK6Z
import Derived.Test.YtopmnmigpbdddaaGreatDoorBT1Z
import Derived.Test.YtopmnmigpbdddaaGreatDoorZN4Z
import Derived.Test.YtopmnmigpbdddaaGreatDoorZB9Z
import Derived.Test.YtopmnmigpbdddaaGreatDoorMT3Z
import Derived.Test.YtopmnmigpbdddaaGreatDoorMT8Z
import Derived.Test.YtopmnmigpbdddaaGreatDoorZN1Z
import Derived.Test.YtopmnmigpbdddaaGreatDoorBS7Z
import Derived.Test.YtopmnmigpbdddaaGreatDoorMK3Z
namespace Go.Proofs.YtopmnmigpbdddaaGreatDoor
open Go Go.HL Go.Proofs Go.HL.Kl Go.HL.Kl.Mc Go.HL.Kl.Mc.AskE
theorem row_allV (K : TalE) (hK : K.ok) (L : Nat) (hN : K.NodeV L) (f : F) : K.RowV L f := by
  obtain ⟨n, hn⟩ : ∃ n, f.size = n := ⟨_, rfl⟩
  induction n using Nat.strongRecOn generalizing f with
  | ind n ih => exact fun at_ i1 hp i j hij hjn c Pool hc left h0 hL h5 => row_stepV K hK L hN f (fun g hg => ih g.size (by omega) g rfl) at_ i1 hp i j hij hjn c Pool hc left h0 hL h5
theorem tally_allV (K : TalE) (hK : K.ok) : ∀ L, K.NodeV L ∧ K.RoundsV L
  | 0 => ⟨fun _ _ _ _ _ _ _ _ _ _ _ _ left h0 hL _ => absurd hL (by omega), fun _ _ _ _ _ _ _ _ _ _ _ _ _ _ _ _ left h0 hL _ _ => absurd hL (by omega)⟩
  | L + 1 => by
    obtain ⟨hN, hRo⟩ := tally_allV K hK L
    exact ⟨fun x ks at_ i1 hp i j hij hjn c Pool hc left h0 hL h5 => node_stepV K hK L hN (row_allV K hK L hN) hRo x ks at_ i1 hp i j hij hjn c Pool hc left h0 (by omega) h5,
      fun x y js at_ i1 h6 hp had hhd i j hij hjn c Pool hc left h0 hL h5 hhl => rounds_stepV K hK L hN hRo x y js at_ i1 h6 hp had hhd i j hij hjn c Pool hc left h0 (by omega) h5 hhl⟩
def Fits (re : List Nd) (n : Int) : Prop := ∀ m : Nat, n = m → m ≤ 60 ∧ ∃ x ks, Shp re x ks ∧ LAcc m x ks (List.replicate (gcn re) noS) (prs m (m + 1)) 262144
set_option maxHeartbeats 4000000 in
theorem lookedV_fn (ra : Option Addr) (rc : Nat) (re : List Nd) (hre : ∀ x ∈ re, -128 ≤ x.op ∧ x.op < 128) (n : Int) : HL.Fn Tryz.prog 138 [.slice ra re.length rc, .int .i64 n] (fun W => Rd En W (.slice ra re.length rc) re) [] (fun v _ => ∃ k : Int, v = .int .i64 k ∧ (shapedB re = true → 0 ≤ n → k ≤ 262144 → Fits re n)) := by
  refine fn_of Tryz.func138 rfl rfl rfl fun w0 hw => ?_
  have hsl := hw.sl
  have hbl := hsl.le
  refine cR fun _ hK1 => ?_; refine oA (oZ hK1 (c_seq fun _ hK2 => ?_)); refine cR fun _ hK3 => ?_; refine oM ?_; refine o_callP (rShaped_fn ra rc re hre) rfl rfl rfl (fun _ st => (RdK.old0 hw).out _ st) (fun v15 hv15 => ?_); subst hv15
  cases hsb : shapedB re
  ·refine oS (s_not rfl) ?_; refine oM ?_; refine oN ?_; refine oN ?_; refine oS sT (oZ hK3 ?_); refine cT (cR fun _ hK4 => ?_); refine oA (oZ hK4 (c_ret ?_)); refine x_then_ret (?_); exact xR rfl rfl (⟨_, rfl, fun h => absurd h (by rw [hsb]; decide)⟩)
  ·obtain ⟨_, x, ks, hS⟩ := shapedB_iff.1 hsb
   have hroot : Part re (.nd x ks .nil) 0 re.length := hS.part
   have hlen := hS.len
   have hgc : gcn re ≤ re.length := List.countP_le_length
   refine oS (s_not rfl) ?_; refine oM ?_; refine oY (oM ?_); refine oY ?_
   by_cases hn0 : n < 0
   ·refine oS lsT ?_; refine oS sP (oZ hK3 ?_); refine cT (cR fun _ hK5 => ?_); refine oA (oZ hK5 (c_ret ?_)); refine x_then_ret (?_); exact xR rfl rfl (⟨_, rfl, fun _ h => absurd h (by omega)⟩)
   ·obtain ⟨n, rfl⟩ : ∃ m : Nat, n = m := ⟨n.toNat, by omega⟩
    refine oS lsF ?_; refine oS sP (oZ hK3 ?_); refine cFZ hK2 (c_seq fun _ hK6 => ?_); refine cR fun _ hK7 => ?_; refine oM ?_
    by_cases hn60 : (n : Int) > 60
    ·refine oS gtT (oZ hK7 ?_); refine cT (cR fun _ hK8 => ?_); refine oA (oZ hK8 (c_ret ?_)); refine x_then_ret (?_); exact xR rfl rfl (⟨_, rfl, fun _ _ h => absurd h (by decide)⟩)
    ·refine oS gtF (oZ hK7 ?_); refine cFZ hK6 (cR fun _ hK9 => ?_); refine oM (oM ?_); refine oS (step_cast (v' := .agg [.slice ra re.length rc, .int .i64 (n : Nat), .slice none 0 0, .int .i64 262144].toArray) (s_build (cs := [_, _, _, _]) (vs := [_, _, _]) rfl rfl (.cons rfl rfl rfl rfl rfl (.cons rfl rfl rfl rfl rfl (.cons rfl rfl rfl rfl rfl .nil)))) rfl) ?_; refine o_box rfl rfl rfl fun b26 => ?_; refine oA (oZ hK9 (cR fun _ hK10 => ?_)); refine oA (oZ hK10 (c_seq fun _ hK11 => ?_)); refine cR fun _ hK12 => ?_; refine oA (oZ hK12 (c_block ?_)); refine c_loop5 (fun (q : Nat) (ha : Option Addr) (hc : Nat) (hl : List Nat) (Sh : Hp) => q ≤ re.length ∧ BehI re hl q ∧ OwnS Eix 1 3 (.slice ha hl.length hc) hl Sh) (fun (q : Nat) (ha : Option Addr) (hc : Nat) (hl : List Nat) (Sh : Hp) => [(7, .int .i64 q), (6, .int .i64 (gcn (re.take q) : Nat))]) [(0, _), (1, _), (4, _), (5, _)] (fun (q : Nat) (ha : Option Addr) (hc : Nat) (hl : List Nat) (Sh : Hp) => (b26, .cells [.slice ra re.length rc, .int .i64 (n : Nat), .slice ha hl.length hc, .int .i64 262144].toArray 255 (0, 0)) :: Sh) (fun (q : Nat) (ha : Option Addr) (hc : Nat) (hl : List Nat) (Sh : Hp) => re.length - q) 0 none 0 [] [] ⟨Nat.zero_le _, BehI.nil, .nil⟩ sbA sbA hzB ?_
     rintro q ha hc hl Sh ⟨hql, hB, hOh⟩
     have hBl := hB.1
     refine c_seq fun _ hK13 => ?_; refine cR fun _ hK14 => ?_; refine oM (oM ?_); refine oS sC ?_; refine oS (s_lss rfl rfl) ?_; refine oZ hK14 ?_; refine c_if rfl (fun hq => ?_) (fun hq => ?_)
     ·obtain ⟨y, js, r, e, hp⟩ := part_at _ _ _ hroot q (Nat.zero_le _) (by omega)
      obtain ⟨hy, _, _⟩ := hp.head
      have hgt := gcn_take hy
      have hgq : gcn (re.take q) ≤ re.length := Nat.le_trans List.countP_le_length (by rw [List.length_take]; omega)
      have hyr := hre y (List.mem_of_getElem? hy)
      have hpe := hp.le
      have hpn := hp.len
      refine c_skip (xZ hK13 (c_seq fun _ hK15 => ?_)); refine c_block (cR fun _ hK16 => ?_); refine oA (oZ hK16 (cR fun _ hK17 => ?_)); refine oM (oA (oZ hK17 (c_seq fun _ hK18 => ?_))); refine c_block ?_; refine c_loop2 (fun (h : F) (k : Nat) => Part re h k (q + 1 + js.size)) (fun (h : F) (k : Nat) => [(8, .int .i64 (h.num : Nat)), (9, .int .i64 k)]) [(0, _), (1, _), (4, _), (5, _), (6, _), (7, _), (27, _), (28, _), (29, _), (30, _), (33, _)] (fun (h : F) (k : Nat) => (b26, .cells [.slice ra re.length rc, .int .i64 (n : Nat), .slice ha hl.length hc, .int .i64 262144].toArray 255 (0, 0)) :: Sh) (fun (h : F) (k : Nat) => h.size) (F.nd y js .nil) q hp.one_end sbA sbA hzB ?_
      rintro h k hph
      refine c_seq fun _ hK19 => ?_; refine cR fun _ hK20 => ?_; refine oM ?_; refine oS (s_gtr rfl rfl) ?_; refine oZ hK20 ?_; refine c_if rfl (fun hleft => ?_) (fun hleft => ?_)
      ·obtain ⟨z, a, b, rfl⟩ : ∃ z a b, h = F.nd z a b := by cases h with | nil => exact absurd hleft (by simp [F.num]) | nd z a b => exact ⟨z, a, b, rfl⟩
       obtain ⟨hz, hpa, hpb⟩ := hph.head
       have hzw : (a.num : Int) = z.kids := hph.wf.2.1
       have hhl := hph.le
       have hhn := hph.len
       have hnn := F.num_le a
       have hnb := F.num_le b
       simp only [F.size] at hhn
       have hnm : (F.nd z a b).num = b.num + 1 := rfl
       refine c_skip (xZ hK19 (c_block (cR fun _ hK21 => ?_))); refine oM ?_; refine oS sU (oM (oM ?_)); refine oS (s_idx rfl rfl hsl (by omega)) ?_; refine oS sF ?_; refine oS (s_ld rfl ((RdK.old0 hw).ld k 8 hz rfl (by decide) (by omega))) ?_; refine oS (step_cast (v' := .int .i64 ((a.app b).num : Nat)) (s_add rfl rfl (by omega)) (congrArg _ (by rw [F.num_app]; omega))) ?_; refine oA (oZ hK21 (c_region (oM ?_))); refine oS sD (oA (o_nil (x_block ?_))); exact x_then (x_inv ((a.app b), k + 1) (hpa.app hpb) (by rw [F.size_app]; simp only [F.size]; omega) sbA hzB)
      ·obtain rfl := F.num_nil (f := h) (by omega)
       have hke := hph.len
       obtain rfl : k = q + 1 + js.size := by simp only [F.size] at hke; omega
       refine c_exit ?_; refine x_then_exit (x_then_exit (x_block_exit (xZ hK18 (cR fun _ hK22 => ?_)))); refine oM (oM ?_); refine oS sN ?_; refine oS sF ?_; refine oS sL (oM ?_); refine o_bs (E := Eix) (xs := [q + 1 + js.size]) (vs := [_]) rfl rfl rfl rfl rfl (by decide) (by decide) fun b52 S52 hS52 => ?_; refine o_app hOh (hS52.rdk hiA) rfl rfl rfl rfl (by simp only [List.length_singleton]; omega) (by simp only [List.length_singleton]; omega) rfl pkA fun a53 c53 S53 hS53 => ?_; refine oS sN ?_; refine oS sF ?_; refine o_store rfl rfl rfl upA ltA rfl ?_; refine oZ hK22 (cR fun _ hK23 => ?_); refine oM (oM ?_); refine oS (s_idx rfl rfl hsl (by omega)) ?_; refine oS sF ?_; refine oS (s_ld rfl ((RdK.old0 hw).ld q 0 hy rfl (by decide) (by omega))) ?_; refine oS (s_convI rfl (by omega)) ?_
       by_cases h7 : y.op = 7
       ·rw [if_pos h7] at hgt
        refine oS (eqT (h := h7)) ?_; refine oZ hK23 ?_; refine cT (c_region (oM ?_)); refine oS (step_cast (v' := .int .i64 (gcn (re.take (q + 1)) : Nat)) (s_add rfl rfl (by omega)) (congrArg _ (by omega))) ?_; refine oA (o_nil (x_block (xZ hK15 (c_region (oM ?_))))); refine oS sD (oA (o_nil ?_)); exact xI (q + 1, a53, c53, hl ++ [q + 1 + js.size], S53) ⟨by dsimp only; omega, hB.snoc hp, hS53⟩
       ·rw [if_neg h7] at hgt
        rw [show gcn (re.take q) = gcn (re.take (q + 1)) by omega]
        refine oS (eqF (h := h7)) ?_; refine oZ hK23 ?_; refine cF (c_skip (x_block (xZ hK15 (c_region (oM ?_))))); refine oS sD (oA (o_nil ?_)); exact xI (q + 1, a53, c53, hl ++ [q + 1 + js.size], S53) ⟨by dsimp only; omega, hB.snoc hp, hS53⟩
     ·obtain rfl : q = re.length := by omega
      rw [List.take_length]
      have hK : TalE.ok (⟨b26, ra, rc, re, n, ha, hc, hl, gcn re⟩ : TalE) := ⟨hre, by dsimp only; omega, by dsimp only; omega, by dsimp only; omega, fun y hy h7 => grp_le hsb hy h7, fun y hy h8 => ref_n hsb hy h8, fun k y js r e hp => hB.2 k y js r e (by have h1 := hp.le; have h2 := hp.len; simp only [F.size] at h2; dsimp only at h1; omega) hp⟩
      refine c_exit ?_; refine x_then_exit (x_then_exit (x_block_exit (xZ hK11 (c_seq fun _ hK24 => ?_)))); refine cR fun _ hK25 => ?_; refine oA (oZ hK25 (c_block ?_)); refine c_loop2 (fun (p : Nat) (lf : Int) => p ≤ n + 1 ∧ -700000 ≤ lf ∧ lf ≤ 262144 ∧ (0 ≤ lf → LAcc n x ks (List.replicate (gcn re) noS) (prs n p) (262144 - lf))) (fun (p : Nat) (lf : Int) => [(10, .int .i64 p)]) [(1, _), (4, _), (5, _), (6, _)] (fun (p : Nat) (lf : Int) => (b26, .cells [.slice ra re.length rc, .int .i64 (n : Nat), .slice ha hl.length hc, .int .i64 lf].toArray 255 (0, 0)) :: Sh) (fun (p : Nat) (lf : Int) => n + 1 - p) 0 262144 ⟨Nat.zero_le _, by decide, by decide, fun _ => .nil (by decide)⟩ sbA sbA hzB ?_
      rintro p lf ⟨hp1, hlo, hhi, hLA⟩
      refine c_seq fun _ hK26 => ?_; refine cR fun _ hK27 => ?_; refine oM (oM ?_); refine oS (s_leq rfl rfl) ?_; refine oZ hK27 ?_; refine c_if rfl (fun hpn => ?_) (fun hpn => ?_)
      ·refine c_skip (xZ hK26 (c_seq fun _ hK28 => ?_)); refine c_block (cR fun _ hK29 => ?_); refine oM (oA (oZ hK29 (c_block ?_))); refine c_loop2 (fun (jz : Int) (lf : Int) => (p : Int) - 1 ≤ jz ∧ jz ≤ n ∧ -700000 ≤ lf ∧ lf ≤ 262144 ∧ (0 ≤ lf → LAcc n x ks (List.replicate (gcn re) noS) (prs n p ++ rowP n p (ends (jz + 1).toNat n)) (262144 - lf))) (fun (jz : Int) (lf : Int) => [(11, .int .i64 jz)]) [(1, _), (4, _), (5, _), (6, _), (10, _), (65, _), (66, _), (67, _), (70, _)] (fun (jz : Int) (lf : Int) => (b26, .cells [.slice ra re.length rc, .int .i64 (n : Nat), .slice ha hl.length hc, .int .i64 lf].toArray 255 (0, 0)) :: Sh) (fun (jz : Int) (lf : Int) => (jz + 1 - p).toNat) (n : Int) lf ⟨by omega, Int.le_refl _, hlo, hhi, fun h0 => by rw [show ((n : Int) + 1).toNat = n + 1 by omega, rowP_none, List.append_nil]; exact hLA h0⟩ sbA sbA hzB ?_
       rintro jz lf ⟨hj1, hj2, hlo, hhi, hLB⟩
       refine c_seq fun _ hK30 => ?_; refine cR fun _ hK31 => ?_; refine oM (oM ?_)
       by_cases hjp : jz ≥ (p : Int)
       ·obtain ⟨j, rfl⟩ : ∃ m : Nat, jz = m := ⟨jz.toNat, by omega⟩
        refine oS geT (oM ?_); refine oY (oM ?_); refine oY ?_; refine oS sN ?_; refine oY ?_; refine oS sF ?_; refine oY ?_; refine oS sL ?_; refine oY ?_
        by_cases hlf0 : lf ≥ 0
        ·refine oS geT ?_; refine oS sT (oZ hK31 ?_); refine cTZ hK30 (c_seq fun _ hK32 => ?_); refine c_block (cR fun _ hK33 => ?_); refine oA (oZ hK33 (c_seq fun _ hK34 => ?_)); refine cR fun _ hK35 => ?_; refine oA (oZ hK35 (c_block ?_)); refine c_loop5 (fun (k : Nat) (ac : Option Addr) (cc : Nat) (cs : List Sp) (Sc : Hp) => k ≤ gcn re ∧ cs.length = k ∧ cs = List.replicate k noS ∧ OwnS Esp 2 40 (.slice ac cs.length cc) cs Sc) (fun (k : Nat) (ac : Option Addr) (cc : Nat) (cs : List Sp) (Sc : Hp) => [(13, .int .i64 k), (12, .slice ac cs.length cc)]) [(1, _), (4, _), (5, _), (6, _), (10, _), (11, _), (65, _), (66, _), (67, _), (70, _), (71, _), (72, _), (73, _), (74, _), (75, _), (76, _), (77, _), (78, _), (79, _), (80, _)] (fun (k : Nat) (ac : Option Addr) (cc : Nat) (cs : List Sp) (Sc : Hp) => (b26, .cells [.slice ra re.length rc, .int .i64 (n : Nat), .slice ha hl.length hc, .int .i64 lf].toArray 255 (0, 0)) :: (Sh ++ Sc)) (fun (k : Nat) (ac : Option Addr) (cc : Nat) (cs : List Sp) (Sc : Hp) => gcn re - k) 0 none 0 [] [] ⟨Nat.zero_le _, rfl, rfl, .nil⟩ sbA sbA hzB ?_
         rintro k ac cc cs Sc ⟨hk, hcl, hcR, hOc⟩
         refine c_seq fun _ hK36 => ?_; refine cR fun _ hK37 => ?_; refine oM (oM ?_); refine oS (s_lss rfl rfl) ?_; refine oZ hK37 ?_; refine c_if rfl (fun hkN => ?_) (fun hkN => ?_)
         ·refine c_skip (xZ hK36 (c_seq fun _ hK38 => ?_)); refine c_block (c_region (oM ?_)); refine oS (s_build (cs := [_, _]) (vs := [_, _]) rfl rfl (.cons rfl rfl rfl rfl rfl (.cons rfl rfl rfl rfl rfl (.nil)))) ?_; refine o_bs (E := Esp) (xs := [noS]) (vs := [_]) rfl rfl rfl rfl rfl (by decide) (by decide) fun b90 S90 hS90 => ?_; refine o_app hOc (hS90.rdk hiA) rfl rfl rfl rfl (by simp only [List.length_singleton]; omega) (by simp only [List.length_singleton]; omega) rfl pkA fun a91 c91 S91 hS91 => ?_; refine oA (o_nil (x_block (xZ hK38 (c_region (oM ?_))))); refine oS sD (oA (o_nil ?_)); exact xI (k + 1, a91, c91, cs ++ [noS], S91) ⟨by dsimp only; omega, by simp [hcl], by dsimp only; rw [hcR, ← List.replicate_succ'], hS91⟩
         ·obtain rfl : k = gcn re := by omega
          have hcN : cs.length = gcn re := hcl
          refine c_exit ?_; refine x_then_exit (x_then_exit (x_block_exit (xZ hK34 (c_region (oM (oM (oM (oM ?_)))))))); refine o_call ((tally_allV (⟨b26, ra, rc, re, n, ha, hc, hl, gcn re⟩ : TalE) hK 262145).1 x ks 0 _ hroot p j (by omega) (show j ≤ n by omega) ⟨ac, cc, cs⟩ Sc ⟨hcN, hOc.sl, hOc.rds⟩ lf (by omega) (by omega) (by omega)) rfl rfl rfl ((Pick.takeC pkA pkA)) (fun _ st => ⟨(RdK.old0 hw).out _ st, St.apart_M st (by exact hiB) hw Apart.nil (by decide), (hOh.rdk hiA).out _ st, St.apart st (Pick.takeC pkA pkA) hOh hiA⟩) (fun v96 S96 ⟨a96, c96, zs96, Sz96, New96, lf96, hv96, hS96, hO96, hP96, hk96, hl96, hb96, hC96⟩ => ?_); subst hv96
          subst hS96; refine o_nil (x_block (xZ hK32 (c_region (oM ?_)))); refine oS sU (oA (o_nil ?_))
          have hLn : 0 ≤ lf96 → LAcc n x ks (List.replicate (gcn re) noS) (prs n p ++ rowP n p (ends ((j : Int) - 1 + 1).toNat n)) (262144 - lf96) := fun h0 => by
            have h1 := hLB (by omega)
            rw [show ((j : Int) + 1).toNat = j + 1 by omega] at h1
            have h2 := hC96 h0
            have hcr : cs = List.replicate (gcn re) noS := hcR
            rw [hcr] at h2
            rw [show ((j : Int) - 1 + 1).toNat = j by omega, rowP_snoc (by omega), ← List.append_assoc, show 262144 - lf96 = (262144 - lf) + (lf - lf96) by omega]
            exact h1.snoc h2
          exact x_then (x_inv ((j : Int) - 1, lf96) ⟨by dsimp only; omega, by dsimp only; omega, hb96, by dsimp only; omega, hLn⟩ (by dsimp only; omega) sbA hzB)
        ·refine oS geF ?_; refine oS sT (oZ hK31 ?_); refine cF ?_; refine c_exit ?_; refine x_then_exit (x_then_exit (x_block_exit (x_block (xZ hK28 (c_region (oM ?_)))))); refine oS sD (oA (o_nil ?_))
         have hLn : 0 ≤ lf → LAcc n x ks (List.replicate (gcn re) noS) (prs n (p + 1)) (262144 - lf) := fun h0 => by first | exact absurd h0 (by omega) | (have h1 := hLB h0; rw [prs_succ]; rw [show (jz + 1).toNat = p by omega] at h1; exact h1)
         exact xI (p + 1, lf) ⟨by dsimp only; omega, hlo, hhi, hLn⟩
       ·refine oS geF (oM ?_); refine oN ?_; refine oN ?_; refine oN ?_; refine oN ?_; refine oN ?_; refine oS sP (oZ hK31 ?_); refine cF ?_; refine c_exit ?_; refine x_then_exit (x_then_exit (x_block_exit (x_block (xZ hK28 (c_region (oM ?_)))))); refine oS sD (oA (o_nil ?_))
        have hLn : 0 ≤ lf → LAcc n x ks (List.replicate (gcn re) noS) (prs n (p + 1)) (262144 - lf) := fun h0 => by first | exact absurd h0 (by omega) | (have h1 := hLB h0; rw [prs_succ]; rw [show (jz + 1).toNat = p by omega] at h1; exact h1)
        exact xI (p + 1, lf) ⟨by dsimp only; omega, hlo, hhi, hLn⟩
      ·refine c_exit ?_; refine x_then_exit (x_then_exit (x_block_exit (xZ hK24 (cR fun _ hK39 => ?_)))); refine oM ?_; refine oS sN ?_; refine oS sF ?_; refine oS sL ?_; refine oS (s_max rfl rfl) ?_; refine oS sU (oA (oZ hK39 (c_ret ?_))); refine ?_; exact xR rfl rfl (⟨_, rfl, fun _ _ hk m hm => ⟨by omega, x, ks, hS, by obtain rfl : n = m := (by omega); have h1 := hLA (by omega); rw [show p = n + 1 by omega] at h1; exact h1.mono (by omega)⟩⟩)
theorem costlyV_fn (ra : Option Addr) (rc : Nat) (re : List Nd) (hre : ∀ x ∈ re, -128 ≤ x.op ∧ x.op < 128) (n : Int) : HL.Fn Tryz.prog 107 [.slice ra re.length rc, .int .i64 n] (fun W => Rd En W (.slice ra re.length rc) re) [] (fun v _ => ∃ b : Bool, v = .bool b ∧ (b = false → shapedB re = true → 0 ≤ n → Fits re n)) := by
  refine fn_of Tryz.func107 rfl rfl rfl fun w0 hw => ?_; refine cR fun _ hK1 => ?_; refine oA (oZ hK1 (cR fun _ hK2 => ?_)); refine oM (oM ?_); refine o_callP (lookedV_fn ra rc re hre n) rfl rfl rfl (fun _ st => (RdK.old0 hw).out _ st) (fun v7 ⟨k, hv7, hF⟩ => ?_); subst hv7
  refine oS (s_gtr rfl rfl) ?_; refine oA (oZ hK2 (c_ret ?_)); refine ?_; exact xR rfl rfl (⟨_, rfl, fun hb hs hn => hF hs hn (by have h := of_decide_eq_false hb; omega)⟩)
def C0 (re : List Nd) : Caps := List.replicate (gcn re) noS
def BNone (w : List UInt8) (x : Nd) (ks : F) (c0 : Caps) (p : Nat) : Prop := ∀ i j, p ≤ i → i ≤ j → j ≤ w.length → LF1 w x ks i j c0 = []
structure BSome (w : List UInt8) (x : Nd) (ks : F) (c0 : Caps) (p i j : Nat) (c : Caps) : Prop where
  lo : p ≤ i
  ij : i ≤ j
  hi : j ≤ w.length
  hd : (LF1 w x ks i j c0).head? = some c
  fst : ∀ i' j', p ≤ i' → i' < i → i' ≤ j' → j' ≤ w.length → LF1 w x ks i' j' c0 = []
  lng : ∀ j', j < j' → j' ≤ w.length → LF1 w x ks i j' c0 = []
  len : c.length = c0.length
  ok : ∀ s ∈ c, s = noS ∨ (0 ≤ s.fr ∧ s.fr ≤ s.to ∧ s.to ≤ w.length)
def BkP (re : List Nd) (w : List UInt8) (p : Int) (v : Value) (S' : Hp) : Prop :=
  (shapedB re = false ∧ v = .tuple #[.slice none 0 0, .bool false, .int .i64 49] ∧ S' = []) ∨ (shapedB re = true ∧ ¬ (0 ≤ p ∧ p ≤ w.length) ∧ v = .tuple #[.slice none 0 0, .bool false, .int .i64 1] ∧ S' = []) ∨
  (shapedB re = true ∧ ∃ m : Nat, p = m ∧ m ≤ w.length ∧ ∃ x ks, Shp re x ks ∧ ((BNone w x ks (C0 re) m ∧ v = .tuple #[.slice none 0 0, .bool false, .int .i64 0] ∧ S' = []) ∨
    ∃ (i j : Nat) (c : Caps) (a : Option Addr) (cc : Nat), BSome w x ks (C0 re) m i j c ∧ v = .tuple #[.slice a (gcn re + 1) cc, .bool true, .int .i64 0] ∧ OwnS Esp 2 40 (.slice a (gcn re + 1) cc) (⟨(i : Nat), (j : Nat)⟩ :: c) S'))
structure QI (K : BkE) (f : Nat) (q : BkS) (rest : Nat) : Prop where
  rep : K.Rep q
  fin : Fin K.sr q.S
  inv : Inv K.sr K.N q.S
  cs : q.S.cs = noS :: C0 K.re
  wk : q.S.wk + rest ≤ 786432
  f1 : f ≤ q.S.fuel + q.S.wk
  f2 : q.S.fuel ≤ f
  sz : q.S.sz ≤ (K.sr.cR + 2) * q.S.wk
theorem qi_start {K : BkE} {s : BkS} {f rest : Nat} (hR : K.Rep s) (hN : K.N = gcn K.re) (hs : s.S = ⟨[], [], [], List.replicate (gcn K.re + 1) noS, f, 0⟩) (hr : rest ≤ 786432) : QI K f s rest := by
  refine ⟨hR, ?_, ?_, by rw [hs]; exact List.replicate_succ, by rw [hs]; show 0 + rest ≤ _; omega, by rw [hs]; exact Nat.le_refl _, by rw [hs]; exact Nat.le_refl _, by rw [hs]; exact Nat.zero_le _⟩
  · rw [hs]
    exact ⟨fun _ h => (by cases h), fun k g h => (by simp at h), fun z hz => .inl (List.eq_of_mem_replicate hz)⟩
  · rw [hs]
    exact ⟨fun k g h => (by simp at h), List.nodup_nil, fun _ h => (by cases h)⟩
theorem c0_ok {K : BkE} (hN : K.N = gcn K.re) : CapOk K.sr K.N (C0 K.re) := ⟨by rw [C0, List.length_replicate, hN], fun s hs => .inl (List.eq_of_mem_replicate hs)⟩
theorem sz_ok {K : BkE} (hK : K.ok) {S : SS} (h : S.sz ≤ (K.sr.cR + 2) * S.wk) (hw : S.wk ≤ 786432) : Sz S := by
  have h1 : K.sr.cR ≤ 250001 := by
    have h2 := hK.Rl
    show (K.R.length + 3) / 4 ≤ _
    omega
  have h2 : (K.sr.cR + 2) * S.wk ≤ 250003 * 786432 := Nat.mul_le_mul (by omega) hw
  unfold SS.sz at h
  exact ⟨by omega, by omega⟩
theorem qi_step {K : BkE} (hK : K.ok) (hN : K.N = gcn K.re) {f : Nat} {q : BkS} {rest k : Nat} (h : QI K f q (k + rest)) (hf : 786432 ≤ f) {x : Nd} {ks : F} {e0 i j : Nat} {Z : List Caps} (hp : Part K.re (.nd x ks .nil) 0 e0) (hij : i ≤ j) (hj : j ≤ K.w.length) (hc : Ct K.w.length (.node x ks i j (C0 K.re)) Z k) :
    ∃ b S', Ev K.sr q.S (.take 0 i j 0) b S' ∧ Sz S' ∧ (∀ q' : BkS, K.Rep q' → Fin K.sr q'.S → q'.S = S' → (b = true → ∃ r, (LF1 K.w x ks i j (C0 K.re)).head? = some r ∧ CapOk K.sr K.N r ∧ q'.S.cs = noS :: r) ∧ (b = false → LF1 K.w x ks i j (C0 K.re) = [] ∧ QI K f q' rest)) := by
  obtain ⟨hR, hF, hI, hcs, hwk, hf1, hf2, hsz⟩ := h
  obtain ⟨b, S', hE, hI', hw', hy, hn⟩ := take_ok hK.ok hc hp hij hj (c0_ok hN) hI hcs (by omega)
  obtain ⟨g1, g2, g3⟩ := hE.grow
  have hm := hE.mono
  have hsl : K.sr.slack (.take 0 i j 0) = 0 := rfl
  have hmul : (K.sr.cR + 2) * q.S.wk + (K.sr.cR + 2) * (S'.wk - q.S.wk) = (K.sr.cR + 2) * S'.wk := by rw [← Nat.mul_add, show q.S.wk + (S'.wk - q.S.wk) = S'.wk by omega]
  have hsz' : S'.sz ≤ (K.sr.cR + 2) * S'.wk := by omega
  refine ⟨b, S', hE, sz_ok hK hsz' (by omega), fun q' hR' hF' he => ⟨fun hb => ?_, fun hb => ?_⟩⟩
  · rw [he]; exact hy hb
  · obtain ⟨h1, h2⟩ := hn hb
    exact ⟨h1, hR', hF', by rw [he]; exact hI', by rw [he, h2]; exact hcs, by rw [he]; omega, by rw [he]; omega, by rw [he]; have := hm.fuel; omega, by rw [he]; exact hsz'⟩
set_option maxHeartbeats 4000000 in
theorem bFind_fn (ra : Option Addr) (rc : Nat) (re : List Nd) (hre : ∀ x ∈ re, -128 ≤ x.op ∧ x.op < 128) (ta : Option Addr) (tc : Nat) (w : List UInt8) (hrl : re.length ≤ 1000000) (hwl : w.length ≤ 1000000) (p : Int) (f : Nat) (hf : 786432 ≤ f) (hf2 : f ≤ 9223372036854775807) (hfit : shapedB re = true → Fits re w.length) : HL.Fn Tryz.prog 20 [.slice ra re.length rc, .slice ta w.length tc, .int .i64 p, .int .i64 (f : Nat)] (fun W => Rd En W (.slice ra re.length rc) re ∧ Rd Eb W (.slice ta w.length tc) w ∧ RdP W 0 0 (Esp noS)) [] (BkP re w p) := by
  refine fn_of Tryz.func20 rfl rfl rfl fun w0 hw => ?_; refine cR fun _ hK1 => ?_; refine oA (oA (oA (oZ hK1 (c_seq fun _ hK2 => ?_)))); refine cR fun _ hK3 => ?_; refine oM ?_; refine o_callP (shaped_fn ra rc re hre) rfl rfl rfl (fun w st => (RdK.old0 hw.1).out w st) (fun v16 hv16 => ?_); subst hv16
  cases hsb : shapedB re
  ·refine oS (s_not rfl) ?_; refine oZ hK3 ?_; refine cT (cR fun _ hK4 => ?_); refine oA (oA (oA (oZ hK4 (c_ret ?_)))); refine x_then_ret (?_); refine x_sub (Sub.refl _) (H' := []) hzB ?_; exact x_ret rfl (.tmp rfl (.tmp rfl (.tmp rfl (.nil)))) (.inl ⟨hsb, rfl, rfl⟩)
  ·obtain ⟨hw60, x, ks, hS, cost, hct, hsum⟩ := hfit hsb w.length rfl
   refine oS (s_not rfl) ?_; refine oZ hK3 ?_; refine cFZ hK2 (c_seq fun _ hK5 => ?_); refine cR fun _ hK6 => ?_; refine oM ?_
   by_cases hp0 : p < 0
   ·refine oS lsT (oM ?_); refine oN ?_; refine oN ?_; refine oN ?_; refine oN ?_; refine oS sT (oM ?_); refine oN ?_; refine oN ?_; refine oS sT (oZ hK6 ?_); refine cT (cR fun _ hK7 => ?_); refine oA (oA (oA (oZ hK7 (c_ret ?_)))); refine x_then_ret (?_); refine x_sub (Sub.refl _) (H' := []) hzB ?_; exact x_ret rfl (.tmp rfl (.tmp rfl (.tmp rfl (.nil)))) (.inr (.inl ⟨hsb, fun h => by omega, rfl, rfl⟩))
   ·obtain ⟨m, rfl⟩ : ∃ m : Nat, p = m := ⟨p.toNat, by omega⟩
    refine oS lsF (oM ?_); refine oY (oM ?_); refine oY (oM ?_); refine oY ?_; refine oS sC ?_; refine oY ?_
    by_cases hpl : (m : Int) > w.length
    ·refine oS gtT ?_; refine oS sP (oM ?_); refine oN ?_; refine oN ?_; refine oS sT (oZ hK6 ?_); refine cT (cR fun _ hK8 => ?_); refine oA (oA (oA (oZ hK8 (c_ret ?_)))); refine x_then_ret (?_); refine x_sub (Sub.refl _) (H' := []) hzB ?_; exact x_ret rfl (.tmp rfl (.tmp rfl (.tmp rfl (.nil)))) (.inr (.inl ⟨hsb, fun h => by omega, rfl, rfl⟩))
    ·refine oS gtF ?_; refine oS sP (oM ?_); refine oY (oM ?_); refine oY ?_; refine oS lsF ?_; refine oS sP (oZ hK6 ?_); refine cFZ hK5 (cR fun _ hK9 => ?_); refine oM (oM (oM ?_)); refine o_call (startK_fn ra rc re hre ta tc w hrl hwl hsb f) rfl rfl rfl (by exact .nil) (fun w st => ⟨(RdK.old0 hw.1).out w st, (RdPK.old0 hw.2.2).out w st⟩) (fun v33 S33 ⟨K, s0, Sb, SX, hv33, hS33, ⟨q1, q2, q3, q4, q5, q6, hN⟩, hOb, hOX, hK, hR0, hs0⟩ => ?_)
     subst q1; subst q2
     subst q3; subst q4
     subst q5; subst q6
     subst hv33; subst hS33
     have hroot : Part K.re (.nd x ks .nil) 0 K.re.length := hS.part
     have hat : 0 < K.re.length := (List.getElem?_eq_some_iff.1 hroot.head.1).1
     have hq0 : QI K f s0 (rsum cost K.w.length (K.w.length + 1 - m)) := qi_start hR0 hN hs0 (by have := rsum_le (cost := cost) (n := K.w.length) (m := K.w.length + 1 - m) (by omega); omega)
     refine oA (oZ hK9 (c_seq fun _ hK10 => ?_)); refine cR fun _ hK11 => ?_; refine oM (oA (oZ hK11 (c_block ?_)))
     refine c_loop2 (fun (q : BkS) (i : Nat) => QI K f q (rsum cost K.w.length (K.w.length + 1 - i)) ∧ m ≤ i ∧ i ≤ K.w.length + 1 ∧ (∀ i2 j2, m ≤ i2 → i2 < i → i2 ≤ j2 → j2 ≤ K.w.length → LF1 K.w x ks i2 j2 (C0 K.re) = [])) (fun (q : BkS) (i : Nat) => [(12, .int .i64 i)]) [(1, _), (11, _)] (fun (q : BkS) (i : Nat) => ((K.obj q) :: K.tl q) ++ (Sb ++ SX)) (fun (q : BkS) (i : Nat) => K.w.length + 1 - i) s0 m ⟨hq0, Nat.le_refl _, by omega, fun _ _ h1 h2 => absurd h2 (by omega)⟩ sbA sbA hzB ?_
     rintro q i ⟨hQ, hmi, hil, hno⟩
     refine c_seq fun _ hK12 => ?_; refine cR fun _ hK13 => ?_; refine oM (oM ?_); refine oS sC ?_
     by_cases hin : (i : Int) ≤ K.w.length
     ·refine oS leT (oZ hK13 ?_); refine cTZ hK12 (c_seq fun _ hK14 => ?_); refine c_block (cR fun _ hK15 => ?_); refine oM ?_; refine oS sC (oA (oZ hK15 (c_block ?_))); refine c_loop2 (fun (q : BkS) (e : Int) => QI K f q (((dwn i e).map (cost i)).sum + rsum cost K.w.length (K.w.length - i)) ∧ e ≤ K.w.length ∧ -1 ≤ e ∧ (∀ j2 : Nat, e < j2 → j2 ≤ K.w.length → LF1 K.w x ks i j2 (C0 K.re) = [])) (fun (q : BkS) (e : Int) => [(13, .int .i64 e)]) [(1, _), (11, _), (12, _), (35, _), (36, _), (37, _), (38, _), (41, _), (42, _)] (fun (q : BkS) (e : Int) => ((K.obj q) :: K.tl q) ++ (Sb ++ SX)) (fun (q : BkS) (e : Int) => (e + 1).toNat) q K.w.length ⟨by rw [dwn_ends]; rw [show K.w.length + 1 - i = (K.w.length - i) + 1 by omega, rsum, show K.w.length - (K.w.length - i) = i by omega] at hQ; exact hQ, Int.le_refl _, by omega, fun j2 h1 h2 => absurd h1 (by omega)⟩ sbA sbA hzB ?_
      rintro q e ⟨hQ, hel, hel1, hnj⟩
      refine c_seq fun _ hK16 => ?_; refine cR fun _ hK17 => ?_; refine oM (oM ?_)
      by_cases hei : e ≥ (i : Int)
      ·obtain ⟨j, rfl⟩ : ∃ m : Nat, e = (m : Int) := ⟨e.toNat, by omega⟩
       have hij : i ≤ j := by omega
       have hj : j ≤ K.w.length := by omega
       rw [dwn_cons hij, List.map_cons, List.sum_cons, Nat.add_assoc] at hQ
       obtain ⟨Z, hcz⟩ := hct (i, j) (mem_prs (by omega) hij hj)
       obtain ⟨b, S1, hE, hz1, hans⟩ := qi_step hK hN hQ hf hroot hij hj hcz
       refine oS geT (oZ hK17 ?_); refine cTZ hK16 (c_seq fun _ hK18 => ?_); refine c_block (cR fun _ hK19 => ?_); refine oM (oM (oM ?_)); refine oS (s_build (cs := [_, _]) (vs := [_, _]) rfl rfl (.cons rfl rfl rfl rfl rfl (.cons rfl rfl rfl rfl rfl (.nil)))) ?_; refine o_call (takeB_all hK 9223372036854775807 (Nat.le_refl _) q 0 i j 0 b S1 hQ.rep hQ.fin hat hij hj (Nat.zero_le _) hE (Nat.le_trans hQ.f2 hf2) hz1) rfl rfl rfl pkA (fun w st => ⟨(RdK.old0 hw.1).out w st, st.apart_M (hin_cons meA (hin_cons meA (hin_cons meA (hin_cons meA (hin_app hiA hiA))))) hw.1 Apart.nil (by decide), (RdK.old0 hw.2.1).out w st, st.apart_M (hin_cons meA (hin_cons meA (hin_cons meA (hin_cons meA (hin_app hiA hiA))))) hw.2.1 Apart.nil (by decide), (hOb.rdk hiA).out w st, st.apart (S := ((K.obj q) :: K.tl q)) pkA hOb hiA, (hOX.rdk hiA).out w st, st.apart (S := ((K.obj q) :: K.tl q)) pkA hOX hiA, (RdPK.old0 hw.2.2).out w st, st.notin (hin_cons meA (hin_cons meA (hin_cons meA (hin_cons meA (hin_app hiA hiA))))) hw.2.2 (by simp [Esp]) (by intro h; cases h)⟩) (fun v52 S52 ⟨q2, hv52, hS52, hR2, hF2, he2⟩ => ?_)
       subst hv52; subst hS52
       cases b
       ·obtain ⟨hlf, hQ2⟩ := (hans q2 hR2 hF2 he2).2 rfl
        refine oA (oZ hK19 (c_block (cR fun _ hK20 => ?_))); refine oM ?_; refine oS sN ?_; refine oS sF ?_; refine oS sL (oA (oZ hK20 ?_)); refine cF (cR fun _ hK21 => ?_); refine oM (oA (oZ hK21 ?_)); refine cF (c_skip (x_block (x_block (xZ hK18 (c_region (oM ?_)))))); refine oS sU (oA (o_nil ?_)); exact xI (q2, (j : Int) - 1) ⟨hQ2, by dsimp only; omega, by dsimp only; omega, fun j2 h1 h2 => if h : (j : Int) < j2 then hnj j2 h h2 else (by have e9 : j2 = j := (by dsimp only at h1; omega); subst e9; exact hlf)⟩
       ·obtain ⟨r, hhd, hcr, hcs2⟩ := (hans q2 hR2 hF2 he2).1 rfl
        have hO2 := hR2.sp
        rw [hcs2] at hO2
        have hsl2 := hO2.sl
        have hrl2 : (noS :: r).length = K.N + 1 := by rw [List.length_cons, hcr.len]
        rw [hrl2] at hsl2
        refine oA (oZ hK19 (c_block (cR fun _ hK22 => ?_))); refine oM ?_; refine oS sN ?_; refine oS sF ?_; refine oS sL (oA (oZ hK22 ?_)); refine cF (cR fun _ hK23 => ?_); refine oM (oA (oZ hK23 ?_)); refine cT (cR fun _ hK24 => ?_); refine oM ?_; refine oS sN ?_; refine oS sF ?_; refine oS sL (oM (oM ?_)); refine oS (s_build (cs := [_, _]) (vs := [_, _]) rfl rfl (.cons rfl rfl rfl rfl rfl (.cons rfl rfl rfl rfl rfl (.nil)))) ?_; refine oS (s_idx rfl rfl hsl2 (by omega)) ?_; refine o_stSE 0 ⟨(i : Nat), (j : Nat)⟩ hO2 pkA rfl rfl (by rw [hrl2]; omega) (by rfl) fun S' hS' => ?_; refine oZ hK24 (cR fun _ hK25 => ?_); refine oM ?_; refine oS sN ?_; refine oS sF ?_; refine oS sL (oA (oA (oA (oZ hK25 (c_ret ?_))))); refine x_block_ret (x_block_ret (x_then_ret (x_then_ret (x_block_ret (x_block_ret (x_then_ret (x_then_ret (x_block_ret (x_then_ret (?_))))))))))
        refine x_sub (Sub.refl _) (H' := S') hzB ?_; exact x_ret rfl (.tmp rfl (.tmp rfl (.tmp rfl (.nil)))) (.inr (.inr ⟨hsb, m, rfl, by omega, x, ks, hS, .inr ⟨i, j, r, K.sa, K.sc, ⟨hmi, hij, hj, hhd, hno, fun j2 h1 h2 => hnj j2 (by omega) h2, by rw [hcr.len, hN, C0, List.length_replicate], hcr.ok⟩, by rw [hN]; rfl, by rw [← hN]; exact hS'⟩⟩))
      ·rw [dwn_nil hei, List.map_nil, List.sum_nil, Nat.zero_add] at hQ
       refine oS geF (oZ hK17 ?_); refine cF ?_; refine c_exit ?_; refine x_then_exit (x_then_exit (x_block_exit (x_block (xZ hK14 (c_region (oM ?_)))))); refine oS sD (oA (o_nil ?_)); exact xI (q, i + 1) ⟨by dsimp only; rw [show K.w.length + 1 - (i + 1) = K.w.length - i by omega]; exact hQ, by dsimp only; omega, by dsimp only; omega, fun i2 j2 h1 h2 h3 h4 => if h : i2 < i then hno i2 j2 h1 h h3 h4 else (by have e9 : i2 = i := (by dsimp only at h2; omega); subst e9; exact hnj j2 (by omega) h4)⟩
     ·obtain rfl : i = K.w.length + 1 := by omega
      refine oS leF (oZ hK13 ?_); refine cF ?_; refine c_exit ?_; refine x_then_exit (x_then_exit (x_block_exit (xZ hK10 (cR fun _ hK26 => ?_)))); refine oA (oA (oA (oZ hK26 (c_ret ?_)))); refine ?_; refine x_sub (Sub.refl _) (H' := []) hzB ?_; exact x_ret rfl (.tmp rfl (.tmp rfl (.tmp rfl (.nil)))) (.inr (.inr ⟨hsb, m, rfl, by omega, x, ks, hS, .inl ⟨fun i2 j2 h1 h2 h3 => hno i2 j2 h1 (by omega) h2 h3, rfl, rfl⟩⟩))
end Go.Proofs.YtopmnmigpbdddaaGreatDoor
namespace Go.Proofs.YtopmnmigpbdddaaGreatDoor
open Go Go.HL Go.Proofs Go.HL.Kl Go.HL.Kl.Mc
theorem rWeight_fn (ra : Option Addr) (rc : Nat) (re : List Nd) (hre : ∀ x ∈ re, -128 ≤ x.op ∧ x.op < 128) : HL.Fn Tryz.prog 109 [.slice ra re.length rc] (fun w => Rd En w (.slice ra re.length rc) re) [] (fun v _ => ∃ n : Nat, n ≤ 16385 ∧ v = .int .i64 n) := by
  refine fn_of Tryz.func109 rfl rfl rfl fun w0 hw => ?_; refine cR fun _ hK1 => ?_; refine oA (oZ hK1 (c_seq fun _ hK2 => ?_)); refine cR fun _ hK3 => ?_; refine oM ?_; refine o_callP (rShaped_fn ra rc re hre) rfl rfl rfl (fun w st => (RdK.old0 hw).out w st) (fun v6 hv6 => ?_); subst hv6
  cases hsb : shapedB re
  ·refine oS (s_not rfl) ?_; refine oZ hK3 ?_; refine cT (cR fun _ hK4 => ?_); refine oA (oZ hK4 (c_ret ?_)); refine x_then_ret (?_); exact xR rfl rfl (⟨0, by omega, rfl⟩)
  ·obtain ⟨_, x, ks, hs⟩ := shapedB_iff.1 hsb
   refine oS (s_not rfl) ?_; refine oZ hK3 ?_; refine cFZ hK2 (cR fun _ hK5 => ?_); refine oM ?_; refine o_callP (rWeigh_fn (ks.size + 1) x ks (by omega) ra rc re 0 _ hre hs.part) rfl rfl rfl (fun w st => (RdK.old0 hw).out w st) (fun v10 hv10 => ?_); subst hv10
   refine oM ?_; refine oS sE ?_; refine oS sE (oA (oA (oZ hK5 (cR fun _ hK6 => ?_)))); refine oM (oA (oZ hK6 (c_ret ?_))); refine ?_; exact xR rfl rfl (⟨_, cut_le _, rfl⟩)
set_option maxHeartbeats 1000000 in
theorem beyond_fn (ra : Option Addr) (rc : Nat) (re : List Nd) (hre : ∀ x ∈ re, -128 ≤ x.op ∧ x.op < 128) : HL.Fn Tryz.prog 102 [.slice ra re.length rc] (fun w => Rd En w (.slice ra re.length rc) re) [] (fun v _ => ∃ b, v = .bool b) := by
  refine fn_of Tryz.func102 rfl rfl rfl fun w0 hw => ?_
  have hsl := hw.sl
  have hbl := hsl.le
  refine cR fun _ hK1 => ?_; refine oA (oZ hK1 (cR fun _ hK2 => ?_)); refine oA (oZ hK2 (c_seq fun _ hK3 => ?_)); refine cR fun _ hK4 => ?_; refine oA (oZ hK4 (c_block ?_))
  refine c_loop3 (fun (j : Nat) (q : Sl Int) (S : Hp) => j ≤ re.length ∧ q.xs.length ≤ 65536 ∧ OwnS Ei 1 3 (.slice q.a q.xs.length q.c) q.xs S) (fun (j : Nat) (q : Sl Int) (S : Hp) => [(4, .int .i64 j), (3, .slice q.a q.xs.length q.c)]) [(0, _)] (fun (j : Nat) (q : Sl Int) (S : Hp) => S) (fun (j : Nat) (q : Sl Int) (S : Hp) => re.length - j) 0 ⟨none, 0, []⟩ [] ⟨by omega, by simp, .nil⟩ sbA sbA hzB ?_
  rintro j q0 S0 ⟨hj, hq0, hO0⟩
  refine c_seq fun _ hK5 => ?_; refine cR fun _ hK6 => ?_; refine oM (oM ?_); refine oS sC ?_
  by_cases hjl : j < re.length
  ·obtain ⟨x, hx⟩ : ∃ x, re[j]? = some x := ⟨_, List.getElem?_eq_getElem hjl⟩
   refine oS lsT (oZ hK6 ?_); refine cTZ hK5 (c_seq fun _ hK7 => ?_); refine c_block (c_seq fun _ hK8 => ?_); refine c_block ?_; refine c_loop2 (fun (q : Sl Int) (S : Hp) => q.xs.length ≤ 65536 ∧ OwnS Ei 1 3 (.slice q.a q.xs.length q.c) q.xs S) (fun (q : Sl Int) (S : Hp) => [(3, .slice q.a q.xs.length q.c)]) [(0, _), (4, _), (5, _), (6, _), (7, _), (8, _)] (fun (q : Sl Int) (S : Hp) => S) (fun (q : Sl Int) (S : Hp) => q.xs.length) q0 S0 ⟨hq0, hO0⟩ sbA sbA hzB ?_
   rintro q S ⟨hq, hO⟩
   have hOs := hO.sl
   have hOc := hOs.cap
   refine c_seq fun _ hK9 => ?_; refine cR fun _ hK10 => ?_; refine oM ?_; refine oS sC ?_
   by_cases hp0 : (q.xs.length : Int) > 0
   ·obtain ⟨u, hu⟩ : ∃ u, q.xs[q.xs.length - 1]? = some u := gE
    have hO1 := hO.pre (q.xs.length - 1) (by omega)
    have hql1 : (q.xs.take (q.xs.length - 1)).length = q.xs.length - 1 := by rw [List.length_take]; omega
    refine oS gtT (oM ?_); refine oY (oM ?_); refine oY (oM ?_); refine oY ?_; refine oS sC ?_; refine oY ?_; refine oS sU ?_; refine oY ?_; refine oS (s_idx rfl rfl hOs (by omega)) ?_; refine oY ?_; refine oS (s_ld rfl ((hO.rdk hiA).ld (q.xs.length - 1) 0 hu rfl (by decide) (by omega))) ?_; refine oY ?_
    by_cases hle : u ≤ 0
    ·refine oS leT ?_; refine oS sT (oZ hK10 ?_); refine cTZ hK9 (c_block (c_region (oM (oM ?_)))); refine oS sC ?_; refine oS sU ?_; refine oS (step_cast (v' := .slice q.a (q.xs.take (q.xs.length - 1)).length q.c) (s_slice_hi rfl rfl (by omega)) (by rw [hql1]; congr 1; omega)) ?_; refine oA (o_nil (x_block ?_)); exact x_then (x_inv (⟨q.a, q.c, q.xs.take (q.xs.length - 1)⟩, S) ⟨by rw [hql1]; omega, by dsimp only; rw [hql1]; exact hO1⟩ (by dsimp only; rw [hql1]; omega) sbA hzB)
    ·refine oS leF ?_; refine oS sT (oZ hK10 ?_); refine cF ?_; refine c_exit ?_; refine x_then_exit (x_then_exit (x_block_exit (xZ hK8 (c_seq fun _ hK11 => ?_)))); refine cR fun _ hK12 => ?_; refine oM ?_; refine oS sC ?_
     by_cases hp1 : (q.xs.length : Int) > 0
     ·obtain ⟨u2, hu2⟩ : ∃ u, q.xs[q.xs.length - 1]? = some u := gE
      refine oS gtT (oZ hK12 ?_); refine cT (c_region (oM (oM ?_))); refine oS sC ?_; refine oS sU (oM (oM ?_)); refine oS sC ?_; refine oS sU ?_; refine oS (s_idx rfl rfl hOs (by omega)) ?_; refine oS (s_ld rfl ((hO.rdk hiA).ld (q.xs.length - 1) 0 hu2 rfl (by decide) (by omega))) ?_; refine oS (s_subw rfl rfl) ?_; refine oS (s_idx rfl rfl hOs (by omega)) ?_; refine o_stS1 (q.xs.length - 1) _ hO pkA rfl rfl rfl (by omega) (by omega) fun S' hS' => ?_
      have hO := hS'
      refine oZ hK11 (cR fun _ hK13 => ?_); refine oM (oM (oM ?_)); refine oS (s_idx rfl rfl hsl (by omega)) ?_; refine oS sF ?_; refine oS (s_ld rfl ((RdK.old0 hw).ld j 8 hx rfl (by decide) (by omega))) ?_; refine o_bs (E := Ei) (xs := [x.kids]) (vs := [_]) rfl rfl rfl rfl rfl (by decide) (by decide) fun b49 S49 hS49 => ?_; refine o_app hO (hS49.rdk hiA) rfl rfl rfl rfl (by simp; omega) (by simp; omega) rfl pkA fun a50 c50 S50 hS50 => ?_; refine oA (oZ hK13 (cR fun _ hK14 => ?_)); refine oM ?_; refine oS sC ?_; refine oS (s_gtr rfl rfl) ?_; refine oZ hK14 ?_
      refine c_if rfl (fun hbig => ?_) (fun hbig => ?_)
      ·refine cR fun _ hK15 => ?_; refine oA (oZ hK15 (c_ret ?_)); refine x_block_ret (x_then_ret (x_then_ret (x_block_ret (x_then_ret (?_)))))
       exact xR rfl rfl (⟨_, rfl⟩)
      ·refine c_skip (x_block (xZ hK7 (c_region (oM ?_)))); refine oS sD (oA (o_nil ?_)); exact xI (j + 1, ⟨a50, c50, _⟩, S50) ⟨by omega, by dsimp only; omega, hS50⟩
     ·refine oS gtF (oZ hK12 ?_); refine cFZ hK11 (cR fun _ hK16 => ?_); refine oM (oM (oM ?_)); refine oS (s_idx rfl rfl hsl (by omega)) ?_; refine oS sF ?_; refine oS (s_ld rfl ((RdK.old0 hw).ld j 8 hx rfl (by decide) (by omega))) ?_; refine o_bs (E := Ei) (xs := [x.kids]) (vs := [_]) rfl rfl rfl rfl rfl (by decide) (by decide) fun b49 S49 hS49 => ?_; refine o_app hO (hS49.rdk hiA) rfl rfl rfl rfl (by simp; omega) (by simp; omega) rfl pkA fun a50 c50 S50 hS50 => ?_; refine oA (oZ hK16 (cR fun _ hK17 => ?_)); refine oM ?_; refine oS sC ?_; refine oS (s_gtr rfl rfl) ?_; refine oZ hK17 ?_; refine c_if rfl (fun hbig => ?_) (fun hbig => ?_)
      ·refine cR fun _ hK18 => ?_; refine oA (oZ hK18 (c_ret ?_)); refine x_block_ret (x_then_ret (x_then_ret (x_block_ret (x_then_ret (?_)))))
       exact xR rfl rfl (⟨_, rfl⟩)
      ·refine c_skip (x_block (xZ hK7 (c_region (oM ?_)))); refine oS sD (oA (o_nil ?_)); exact xI (j + 1, ⟨a50, c50, _⟩, S50) ⟨by omega, by dsimp only; omega, hS50⟩
   ·refine oS gtF (oM ?_); refine oN ?_; refine oN ?_; refine oN ?_; refine oN ?_; refine oN ?_; refine oN ?_; refine oN ?_; refine oS sP (oZ hK10 ?_); refine cF ?_; refine c_exit ?_; refine x_then_exit (x_then_exit (x_block_exit (xZ hK8 (c_seq fun _ hK19 => ?_)))); refine cR fun _ hK20 => ?_; refine oM ?_; refine oS sC ?_
    by_cases hp1 : (q.xs.length : Int) > 0
    ·obtain ⟨u2, hu2⟩ : ∃ u, q.xs[q.xs.length - 1]? = some u := gE
     refine oS gtT (oZ hK20 ?_); refine cT (c_region (oM (oM ?_))); refine oS sC ?_; refine oS sU (oM (oM ?_)); refine oS sC ?_; refine oS sU ?_; refine oS (s_idx rfl rfl hOs (by omega)) ?_; refine oS (s_ld rfl ((hO.rdk hiA).ld (q.xs.length - 1) 0 hu2 rfl (by decide) (by omega))) ?_; refine oS (s_subw rfl rfl) ?_; refine oS (s_idx rfl rfl hOs (by omega)) ?_; refine o_stS1 (q.xs.length - 1) _ hO pkA rfl rfl rfl (by omega) (by omega) fun S' hS' => ?_
     have hO := hS'
     refine oZ hK19 (cR fun _ hK21 => ?_); refine oM (oM (oM ?_)); refine oS (s_idx rfl rfl hsl (by omega)) ?_; refine oS sF ?_; refine oS (s_ld rfl ((RdK.old0 hw).ld j 8 hx rfl (by decide) (by omega))) ?_; refine o_bs (E := Ei) (xs := [x.kids]) (vs := [_]) rfl rfl rfl rfl rfl (by decide) (by decide) fun b49 S49 hS49 => ?_; refine o_app hO (hS49.rdk hiA) rfl rfl rfl rfl (by simp; omega) (by simp; omega) rfl pkA fun a50 c50 S50 hS50 => ?_; refine oA (oZ hK21 (cR fun _ hK22 => ?_)); refine oM ?_; refine oS sC ?_; refine oS (s_gtr rfl rfl) ?_; refine oZ hK22 ?_
     refine c_if rfl (fun hbig => ?_) (fun hbig => ?_)
     ·refine cR fun _ hK23 => ?_; refine oA (oZ hK23 (c_ret ?_)); refine x_block_ret (x_then_ret (x_then_ret (x_block_ret (x_then_ret (?_)))))
      exact xR rfl rfl (⟨_, rfl⟩)
     ·refine c_skip (x_block (xZ hK7 (c_region (oM ?_)))); refine oS sD (oA (o_nil ?_)); exact xI (j + 1, ⟨a50, c50, _⟩, S50) ⟨by omega, by dsimp only; omega, hS50⟩
    ·refine oS gtF (oZ hK20 ?_); refine cFZ hK19 (cR fun _ hK24 => ?_); refine oM (oM (oM ?_)); refine oS (s_idx rfl rfl hsl (by omega)) ?_; refine oS sF ?_; refine oS (s_ld rfl ((RdK.old0 hw).ld j 8 hx rfl (by decide) (by omega))) ?_; refine o_bs (E := Ei) (xs := [x.kids]) (vs := [_]) rfl rfl rfl rfl rfl (by decide) (by decide) fun b49 S49 hS49 => ?_; refine o_app hO (hS49.rdk hiA) rfl rfl rfl rfl (by simp; omega) (by simp; omega) rfl pkA fun a50 c50 S50 hS50 => ?_; refine oA (oZ hK24 (cR fun _ hK25 => ?_)); refine oM ?_; refine oS sC ?_; refine oS (s_gtr rfl rfl) ?_; refine oZ hK25 ?_; refine c_if rfl (fun hbig => ?_) (fun hbig => ?_)
     ·refine cR fun _ hK26 => ?_; refine oA (oZ hK26 (c_ret ?_)); refine x_block_ret (x_then_ret (x_then_ret (x_block_ret (x_then_ret (?_)))))
      exact xR rfl rfl (⟨_, rfl⟩)
     ·refine c_skip (x_block (xZ hK7 (c_region (oM ?_)))); refine oS sD (oA (o_nil ?_)); exact xI (j + 1, ⟨a50, c50, _⟩, S50) ⟨by omega, by dsimp only; omega, hS50⟩
  ·refine oS lsF (oZ hK6 ?_); refine cF ?_; refine c_exit ?_; refine x_then_exit (x_then_exit (x_block_exit (xZ hK3 (cR fun _ hK27 => ?_)))); refine oA (oZ hK27 (c_ret ?_)); refine ?_; exact xR rfl rfl (⟨_, rfl⟩)
end Go.Proofs.YtopmnmigpbdddaaGreatDoor
namespace Go.Proofs.YtopmnmigpbdddaaGreatDoor
open Go Go.HL Go.Proofs Go.HL.Kl Go.HL.Kl.Mc Go.HL.Kl.Mc.AskE
theorem longN_fn (n : Int) : HL.Fn Tryz.prog 42 [.int .i64 n] (fun _ => True) [] (fun v _ => v = .bool (decide (n > 2147483647))) := by
  refine fn_of Tryz.func42 rfl rfl rfl fun w0 hw => ?_; refine cR fun _ hK1 => ?_; refine oA (oZ hK1 (cR fun _ hK2 => ?_)); refine oM ?_; refine oS (s_gtr rfl rfl) ?_; refine oA (oZ hK2 (c_ret ?_)); refine ?_; exact xR rfl rfl (rfl)
theorem long12_fn (ra : Option Addr) (rc : Nat) (re : List Nd) (hre : ∀ x ∈ re, -128 ≤ x.op ∧ x.op < 128)  (ta : Option Addr) (tc : Nat) (w : List UInt8) : HL.Fn Tryz.prog 41 [.slice ra re.length rc, .slice ta w.length tc] (fun W => Rd En W (.slice ra re.length rc) re) [] (fun v _ => ∃ b : Bool, v = .bool b) := by
  refine fn_of Tryz.func41 rfl rfl rfl fun w0 hw => ?_; refine cR fun _ hK1 => ?_; refine oA (oZ hK1 (cR fun _ hK2 => ?_)); refine oM ?_; refine oS sC ?_; refine o_callP (longN_fn re.length) rfl rfl rfl (fun _ _ => trivial) (fun v7 hv7 => ?_); subst hv7
  cases decide ((re.length : Int) > 2147483647)
  ·refine oM ?_; refine oY (oM ?_); refine oY ?_; refine o_callP (beyond_fn ra rc re hre) rfl rfl rfl (fun _ st => (RdK.old0 hw).out _ st) (fun v10 hv10 => ?_)
   obtain ⟨c10, rfl⟩ := hv10
   cases c10
   ·refine oS sP (oM ?_); refine oY (oM ?_); refine oY ?_; refine oS sC ?_; refine oY ?_; refine o_callP (longN_fn w.length) rfl rfl rfl (fun _ _ => trivial) (fun v15 hv15 => ?_); subst hv15
    refine oS sP (oA (oZ hK2 (c_ret ?_))); refine ?_; exact xR rfl rfl (⟨_, rfl⟩)
   ·refine oS sP (oM ?_); refine oN ?_; refine oN ?_; refine oN ?_; refine oS sT (oA (oZ hK2 (c_ret ?_))); refine ?_; exact xR rfl rfl (⟨_, rfl⟩)
  ·refine oM ?_; refine oN ?_; refine oN ?_; refine oS sT (oM ?_); refine oN ?_; refine oN ?_; refine oN ?_; refine oS sT (oA (oZ hK2 (c_ret ?_))); refine ?_; exact xR rfl rfl (⟨_, rfl⟩)
end Go.Proofs.YtopmnmigpbdddaaGreatDoor
namespace Go.HL.Kl.Mc
open Go Go.HL Go.HL.Kl AskE
structure WalkE where
  (bW : Nat)
  (ra : Option Addr) (rc : Nat) (re : List Nd) (ta : Option Addr) (tc : Nat) (tx : List UInt8) (ca : Option Addr) (N cc : Nat)
namespace WalkE
abbrev vre (K : WalkE) : Value := .slice K.ra K.re.length K.rc
abbrev vtx (K : WalkE) : Value := .slice K.ta K.tx.length K.tc
abbrev vca (K : WalkE) : Value := .slice K.ca K.N K.cc
abbrev cells (K : WalkE) : List Value := [K.vre, K.vtx, K.vca]
end WalkE
structure EnvW (w : World) (K : WalkE) (M : List Nat) : Prop where
  p1 : RdP w K.bW 0 K.cells
  d1 : Rd En w K.vre K.re
  d2 : Rd Eb w K.vtx K.tx
  n1 : K.bW ∉ M
  a1 : Apart M K.vre
  a2 : Apart M K.vtx
structure WalkE.ok (K : WalkE) : Prop where
  rng : ∀ x ∈ K.re, -128 ≤ x.op ∧ x.op < 128
  no8 : ∀ x ∈ K.re, ¬ x.op = 8
  len : K.re.length ≤ 1000000
  tx : K.tx.length ≤ 1000000
def BestK (P : Program) (K : WalkE) (fn T : Nat) (x : Nd) (ks : F) : Prop := ∀ (i i1 p q : Nat) (cs : List Sp) (Sc : Hp), Part K.re (.nd x ks .nil) i i1 → p ≤ q → q ≤ K.tx.length → der1 K.tx x ks p q → cs.length = K.N → Slots K.re K.N → OwnS Esp 2 T K.vca cs Sc →
  Fn P fn [pt K.bW, .int .i64 i, .int .i64 p, .int .i64 q] (fun W => EnvW W K (keys Sc)) Sc (fun _ S' => OwnS Esp 2 T K.vca (bst1 K.tx x ks p q cs) S')
def CapR (x : Nd) (r s : Nat) : Prop := r = s ∨ (x.mx = -1 ∧ max x.mn.toNat 1 ≤ r ∧ s = max x.mn.toNat 1)
end Go.HL.Kl.Mc
namespace Go.HL
open Go
end Go.HL
namespace Go.HL.Kl.Mc
open Go Go.HL Go.HL.Kl
theorem Lft.uniq {w : List UInt8} {x : Nd} {ks : F} {f p q p' q' : Nat} (h : Lft w x ks f p q) (h' : Lft w x ks f p' q') : p = p' ∧ q = q' := by
  have hp : p = p' := by
    rcases Nat.lt_trichotomy p p' with e | e | e
    · exact absurd h.der (h'.left p q h.ge e h.len)
    · exact e
    · exact absurd h'.der (h.left p' q' h'.ge e h'.len)
  subst hp; refine ⟨rfl, ?_⟩
  rcases Nat.lt_trichotomy q q' with e | e | e
  · exact absurd h'.der (h.long q' e h'.len)
  · exact e
  · exact absurd h.der (h'.long q e h.len)
def FRes (re : List Nd) (w : List UInt8) (f : Int) (b : Bool) (L : List Sp) : Prop :=
  (∃ x ks, ∃ g p q : Nat, May re w x ks ∧ f = g ∧ Lft w x ks g p q ∧ b = true ∧ L = capsV w re x ks p q) ∨
  ((¬ ∃ x ks, ∃ g p q : Nat, May re w x ks ∧ f = g ∧ g ≤ p ∧ q ≤ w.length ∧ der1 w x ks p q) ∧ b = false ∧ L = [])
theorem FRes.uniq {re : List Nd} {w : List UInt8} {f : Int} {b b' : Bool} {L L' : List Sp} (h : FRes re w f b L) (h' : FRes re w f b' L') : b = b' ∧ L = L' := by
  rcases h with ⟨x, ks, g, p, q, hm, hg, hl, rfl, rfl⟩ | ⟨hn, rfl, rfl⟩ <;> rcases h' with ⟨x', ks', g', p', q', hm', hg', hl', rfl, rfl⟩ | ⟨hn', rfl, rfl⟩
  · obtain ⟨rfl, rfl⟩ := hm.hs.uniq hm'.hs
    obtain rfl : g = g' := by omega
    obtain ⟨rfl, rfl⟩ := hl.uniq hl'
    exact ⟨rfl, rfl⟩
  · exact absurd ⟨x, ks, g, p, q, hm, hg, hl.ge, hl.len, hl.der⟩ hn'
  · exact absurd ⟨x', ks', g', p', q', hm', hg', hl'.ge, hl'.len, hl'.der⟩ hn
  · exact ⟨rfl, rfl⟩
theorem capsV_le {w : List UInt8} {re : List Nd} {x : Nd} {ks : F} {p q : Nat} : (capsV w re x ks p q).length ≤ re.length + 1 := by
  rw [capsV_len]
  have : gcn re ≤ re.length := List.countP_le_length
  omega
theorem FindP.res {T : Nat} {re : List Nd} {w : List UInt8} {f : Int} {v : Value} {S' : Hp} (h : FindP T re w f v S') : ∃ b L a c, FRes re w f b L ∧ v = .tuple #[.slice a L.length c, .bool b] ∧ OwnS Esp 2 T (.slice a L.length c) L S' := by
  rcases h with ⟨x, ks, g, p, q, hm, hg, hl, a, cc, hv, hO⟩ | ⟨hn, hv, rfl⟩
  · exact ⟨true, _, a, cc, .inl ⟨x, ks, g, p, q, hm, hg, hl, rfl, rfl⟩, hv, hO⟩
  · exact ⟨false, [], none, 0, .inr ⟨hn, rfl, rfl⟩, hv, .nil⟩
def BRes (re : List Nd) (w : List UInt8) (fr to : Int) (b : Bool) (L : List Sp) : Prop :=
  (∃ x ks, ∃ p q : Nat, May re w x ks ∧ fr = p ∧ to = q ∧ p ≤ q ∧ q ≤ w.length ∧ der1 w x ks p q ∧ b = true ∧ L = capsV w re x ks p q) ∨
  ((¬ ∃ x ks, ∃ p q : Nat, May re w x ks ∧ fr = p ∧ to = q ∧ p ≤ q ∧ q ≤ w.length ∧ der1 w x ks p q) ∧ b = false ∧ L = [])
theorem BestP.res {T : Nat} {re : List Nd} {w : List UInt8} {fr to : Int} {v : Value} {S' : Hp} (h : BestP T re w fr to v S') : ∃ b L a c, BRes re w fr to b L ∧ v = .tuple #[.slice a L.length c, .bool b] ∧ OwnS Esp 2 T (.slice a L.length c) L S' := by
  rcases h with ⟨x, ks, p, q, hm, h1, h2, h3, h4, h5, a, cc, hv, hO⟩ | ⟨hn, hv, rfl⟩
  · exact ⟨true, _, a, cc, .inl ⟨x, ks, p, q, hm, h1, h2, h3, h4, h5, rfl, rfl⟩, hv, hO⟩
  · exact ⟨false, [], none, 0, .inr ⟨hn, rfl, rfl⟩, hv, .nil⟩
def spB (j : Nat) : UInt8 := UInt8.ofNat (279 + 7 * j + 3)
def xor3 (x : UInt8) : UInt8 := UInt8.ofNat (BitVec.ofInt 8 (x.toNat : Int) ^^^ BitVec.ofInt 8 3).toNat
end Go.HL.Kl.Mc
namespace Go.HL.Kl.Mc
open Go Go.HL Go.HL.Kl AskE
theorem part_ex {f : F} : ∀ {re : List Nd} {i e : Nat} {n : Nat}, Part re f i e → n ∈ gn f → ∃ j y js r j', Part re (.nd y js r) j j' ∧ y.op = 7 ∧ y.n.toNat = n := by
  induction f with
  | nil => intro re i e n _ h; simp [gn, F.flat, gl] at h
  | nd x ks r ih1 ih2 =>
    intro re i e n hp h
    rw [gn_nd] at h
    obtain ⟨_, hk, hr⟩ := hp.head
    rcases List.mem_append.1 h with h | h
    · split at h
      · rename_i h7
        obtain rfl := List.mem_singleton.1 h
        exact ⟨i, x, ks, r, e, hp, h7, rfl⟩
      · cases h
    · rcases List.mem_append.1 h with h | h
      · exact ih1 hk h
      · exact ih2 hr h
theorem caps_in {re : List Nd} {w : List UInt8} {x : Nd} {ks : F} {p q : Nat} (hm : May re w x ks) (hd : der1 w x ks p q) (hpq : p ≤ q) : ∀ s ∈ capsV w re x ks p q, s = noS ∨ ((p : Int) ≤ s.fr ∧ s.fr ≤ s.to ∧ s.to ≤ q) := by
  intro s hs
  obtain ⟨i, hi, rfl⟩ := List.mem_iff_getElem.1 hs
  have hg := List.getElem?_eq_getElem hi
  by_cases h0 : i = 0
  · subst h0
    rw [(caps_nst hm hd).2] at hg
    rw [← Option.some.inj hg]
    exact .inr ⟨Int.le_refl _, by simp only; omega, Int.le_refl _⟩
  by_cases hn : i ∈ gn (.nd x ks .nil)
  · obtain ⟨j, y, js, r, j', hp, h7, rfl⟩ := part_ex hm.hs.part hn
    obtain ⟨t, ht, hc, _⟩ := nest_law hm hd hp h7
    rw [hg] at ht
    rw [Option.some.inj ht]; exact hc
  · left
    obtain ⟨h1, h2⟩ := gl_take hm.sh re.length (Nat.le_refl _)
    rw [List.take_length] at h1 h2
    have hgr := gn_root hm.hs
    obtain ⟨_, k2⟩ := bst_nst w (.nd x ks .nil) false p q (List.replicate (gcn re + 1) noS) (by rw [hgr]; exact h1) (fun i hi => by rw [hgr] at hi; have := h2 i hi; simp; omega) (fun i hi => by
      rw [hgr] at hi; have := h2 i hi
      rw [List.getElem?_replicate, if_pos (by omega)]) (der_one.2 hd)
    have h3 := k2 i hn
    rw [bst_one hd] at h3
    have h4 : (capsV w re x ks p q)[i]? = (List.replicate (gcn re + 1) noS)[i]? := by rw [capsV, List.getElem?_set_ne (by omega), h3]
    rw [hg, List.getElem?_replicate] at h4
    split at h4
    · exact Option.some.inj h4
    · cases h4
structure GoodL (n at_ : Nat) (L : List Sp) (p q : Nat) : Prop where
  hd : L[0]? = some ⟨p, q⟩
  ge : at_ ≤ p
  le : p ≤ q
  ln : q ≤ n
  all : ∀ s ∈ L, s = noS ∨ (0 ≤ s.fr ∧ s.fr ≤ s.to ∧ s.to ≤ n)
  len : L.length ≤ 4294967296
theorem GoodL.mono {n a b : Nat} {L : List Sp} {p q : Nat} (h : GoodL n b L p q) (hab : a ≤ b) : GoodL n a L p q := ⟨h.hd, by have := h.ge; omega, h.le, h.ln, h.all, h.len⟩
theorem GoodL.uniq {n a b p q p' q' : Nat} {L : List Sp} (h : GoodL n a L p q) (h' : GoodL n b L p' q') : p = p' ∧ q = q' := by
  have := h.hd.symm.trans h'.hd
  simp only [Option.some.injEq, Sp.mk.injEq] at this
  omega
theorem FRes.good {re : List Nd} {w : List UInt8} {f : Nat} {L : List Sp} (h : FRes re w (f : Int) true L) : ∃ p q, GoodL w.length f L p q := by
  rcases h with ⟨x, ks, g, p, q, hm, hg, hl, _, rfl⟩ | ⟨_, h, _⟩
  · obtain rfl : f = g := by omega
    have hle := hm.hs.len
    have hcl := capsV_le (w := w) (re := re) (x := x) (ks := ks) (p := p) (q := q)
    refine ⟨p, q, (caps_nst hm hl.der).2, hl.ge, hl.le, hl.len, fun s hs => (caps_in hm hl.der hl.le s hs).imp id fun ⟨h1, h2, h3⟩ => ⟨by omega, h2, by have := hl.len; omega⟩, by omega⟩
  · cases h
theorem FRes.none {re : List Nd} {w : List UInt8} {f : Int} {L : List Sp} (h : FRes re w f false L) : L = [] := by
  rcases h with ⟨_, _, _, _, _, _, _, _, h, _⟩ | ⟨_, _, h⟩
  · cases h
  · exact h
inductive MtS {σ : Type} (stp : σ → Nat → Bool → List Sp → σ → Prop) (n : Nat) : σ → Nat → Int → List (List Sp) → Prop
  | out {s : σ} {a : Nat} {last : Int} (h : n < a) : MtS stp n s a last []
  | none {s s' : σ} {a : Nat} {last : Int} (h : a ≤ n) (hs : stp s a false [] s') : MtS stp n s a last []
  | skip {s s' : σ} {a p : Nat} {last : Int} {L : List Sp} {xs : List (List Sp)} (h : a ≤ n) (hs : stp s a true L s') (hg : GoodL n a L p p) (hl : last = p) (hr : MtS stp n s' (a + 1) last xs) : MtS stp n s a last xs
  | take {s s' : σ} {a p q : Nat} {last : Int} {L : List Sp} {xs : List (List Sp)} (h : a ≤ n) (hs : stp s a true L s') (hg : GoodL n a L p q) (hl : ¬ (p = q ∧ last = p)) (hr : MtS stp n s' q q xs) : MtS stp n s a last (L :: xs)
inductive ChL (n : Nat) : Nat → Int → List (List Sp) → Prop
  | nil {a : Nat} {last : Int} : ChL n a last []
  | cons {a p q : Nat} {last : Int} {L : List Sp} {xs : List (List Sp)} (hg : GoodL n a L p q) (hl : ¬ (p = q ∧ last = p)) (hr : ChL n q q xs) : ChL n a last (L :: xs)
def stpR (re : List Nd) (w : List UInt8) (_ : Unit) (a : Nat) (b : Bool) (L : List Sp) (_ : Unit) : Prop := FRes re w (a : Int) b L
theorem MtS.out_nil {σ : Type} {stp : σ → Nat → Bool → List Sp → σ → Prop} {n : Nat} {s : σ} {a : Nat} {last : Int} {xs : List (List Sp)} (h : MtS stp n s a last xs) (ha : n < a) : xs = [] := by
  cases h with
  | out => rfl
  | none h => omega
  | skip h => omega
  | take h => omega
def Det {σ : Type} (stp : σ → Nat → Bool → List Sp → σ → Prop) : Prop := ∀ s a b L s' b2 L2 s2, stp s a b L s' → stp s a b2 L2 s2 → b = b2 ∧ L = L2 ∧ s' = s2
theorem MtS.at_none {σ : Type} {stp : σ → Nat → Bool → List Sp → σ → Prop} (hd : Det stp) {n : Nat} {s s' : σ} {a : Nat} {last : Int} {L : List Sp} {xs : List (List Sp)} (h : MtS stp n s a last xs) (ha : a ≤ n) (hs : stp s a false L s') : xs = [] := by
  cases h with
  | out h => omega
  | none _ _ => rfl
  | skip _ h2 => exact absurd (hd _ _ _ _ _ _ _ _ hs h2).1 (by decide)
  | take _ h2 => exact absurd (hd _ _ _ _ _ _ _ _ hs h2).1 (by decide)
theorem MtS.at_some {σ : Type} {stp : σ → Nat → Bool → List Sp → σ → Prop} (hd : Det stp) {n : Nat} {s s' : σ} {a : Nat} {last : Int} {L : List Sp} {xs : List (List Sp)} (h : MtS stp n s a last xs) (ha : a ≤ n) (hs : stp s a true L s') :
    ∃ p q, GoodL n a L p q ∧ ((p = q ∧ last = p ∧ MtS stp n s' (a + 1) last xs) ∨ (¬ (p = q ∧ last = p) ∧ ∃ r, xs = L :: r ∧ MtS stp n s' q q r)) := by
  cases h with
  | out h => omega
  | none _ h2 => exact absurd (hd _ _ _ _ _ _ _ _ hs h2).1 (by decide)
  | skip _ h2 hg hl hr =>
    obtain ⟨_, rfl, rfl⟩ := hd _ _ _ _ _ _ _ _ hs h2
    exact ⟨_, _, hg, .inl ⟨rfl, hl, hr⟩⟩
  | take _ h2 hg hl hr =>
    obtain ⟨_, rfl, rfl⟩ := hd _ _ _ _ _ _ _ _ hs h2
    exact ⟨_, _, hg, .inr ⟨hl, _, rfl, hr⟩⟩
end Go.HL.Kl.Mc
