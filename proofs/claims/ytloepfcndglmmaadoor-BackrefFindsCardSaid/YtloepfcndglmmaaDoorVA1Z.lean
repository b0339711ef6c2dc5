/- Part of the proofs over this seat: see the text that holds the theorem. Conditions: each theorem bears its own. -/
import Derived.Test.YtloepfcndglmmaaDoorHTZ
import Derived.Test.YtloepfcndglmmaaDoorVZN3Z
import Derived.Test.YtloepfcndglmmaaDoorHM2Z
import Derived.Test.YtloepfcndglmmaaDoorHlB
import Derived.Test.YtloepfcndglmmaaDoorMT6Z
namespace Go.Proofs.YtloepfcndglmmaaDoor
open Go Go.HL Go.Proofs Go.HL.Kl Go.HL.Kl.Mc Go.HL.Kl.Mc.AskE
theorem copyBytes_fn (a : Option Addr) (c : Nat) (xs : List UInt8) (hn : xs.length ≤ 3000000000) : HL.Fn Tryd.prog 18 [.slice a xs.length c] (fun w => Rd Eb w (.slice a xs.length c) xs) [] (fun v S' => ∃ a' c', v = .slice a' xs.length c' ∧ OwnS Eb 1 5 (.slice a' xs.length c') xs S') := by
  refine fn_of Tryd.func18 rfl rfl rfl fun w0 hw => ?_; refine cR fun _ hK1 => ?_; refine oA (oZ hK1 (cR fun _ hK2 => ?_)); refine oA (oZ hK2 (cR fun _ hK3 => ?_)); refine oM (oM ?_); refine o_app (OwnS.nil : OwnS Eb 1 5 (.slice none 0 0) [] []) (RdK.old0 hw) rfl rfl rfl rfl (by simp; omega) (by simp; omega) rfl pkA fun a6 c6 S6 hS6 => ?_
  rw [List.nil_append] at hS6
  rw [List.nil_append]
  refine oA (oZ hK3 (c_ret ?_)); refine ?_; refine x_sub (Sub.refl _) (H' := S6) hzB ?_; exact xR rfl rfl (⟨_, _, rfl, hS6⟩)
def keI_dummy : Unit := ()
instance keI : KE Tryd.prog 3 EkI := KE.int
def DepC (x : Nd) (ks : F) : Prop := ∀ (ra : Option Addr) (rc : Nat) (re : List Nd) (i i1 : Nat), Part re (.nd x ks .nil) i i1 → HL.Fn Tryd.prog 40 [.slice ra re.length rc, .int .i64 i] (fun W => Rd En W (.slice ra re.length rc) re) [] (fun v _ => v = .tuple #[.int .i64 ((ks.depth + 1 : Nat) : Int), .int .i64 i1])
set_option maxHeartbeats 1000000 in
theorem depth_step (x : Nd) (ks : F) (ih : ∀ y js, js.size < ks.size → DepC y js) (ra : Option Addr) (rc : Nat) (re : List Nd) (i i1 : Nat) (hp : Part re (.nd x ks .nil) i i1) : HL.Fn Tryd.prog 40 [.slice ra re.length rc, .int .i64 i] (fun W => Rd En W (.slice ra re.length rc) re) [] (fun v _ => v = .tuple #[.int .i64 ((ks.depth + 1 : Nat) : Int), .int .i64 i1]) := by
  refine fn_of Tryd.func40 rfl rfl rfl fun w0 hw => ?_
  have hsl := hw.sl
  have hbl := hsl.le
  have hx := hp.head.1
  have hel := hp.le
  have he := hp.len
  simp only [F.size, Nat.add_zero] at he
  have hkn := hp.wf.2.1
  have hksn := ks.num_le
  have hlt := (List.getElem?_eq_some_iff.1 hx).1
  have hdp := F.depth_le ks
  refine cR fun _ hK1 => ?_; refine oA (oA (oZ hK1 (cR fun _ hK2 => ?_))); refine oM ?_; refine oS sD (oA (oA (oZ hK2 (c_seq fun _ hK3 => ?_)))); refine cR fun _ hK4 => ?_; refine oM (oM ?_); refine oS (s_idx rfl rfl hsl (by omega)) ?_; refine oS sF ?_; refine oS (s_ld rfl ((RdK.old0 hw).ld i 8 hx rfl (by decide) (by omega))) ?_; refine oM (oZ hK4 (c_block ?_)); refine c_loop4 (fun (m : Nat) (kid : Nat) (g : F) (d : Nat) => Part re g kid i1 ∧ (m : Int) + g.num = x.kids ∧ g.size ≤ ks.size ∧ max d g.depth = ks.depth) (fun (m : Nat) (kid : Nat) (g : F) (d : Nat) => [(17, .int .i64 m), (7, .int .i64 kid), (6, .int .i64 d)]) [(0, _), (4, _), (5, _), (16, _)] (fun (m : Nat) (kid : Nat) (g : F) (d : Nat) => []) (fun (m : Nat) (kid : Nat) (g : F) (d : Nat) => g.num) 0 (i + 1) ks 0 ⟨by have := hp.head.2.1; rw [show i + 1 + ks.size = i1 by omega] at this; exact this, by omega, Nat.le_refl _, by omega⟩ sbA sbA (by exact HSub.nil) ?_
  rintro m kid g d ⟨hpg, hmg, hgs, hd⟩
  have hgn := g.num_le
  have hgl := hpg.len
  have hgd := F.depth_le g
  refine cR fun _ hK5 => ?_
  by_cases hmk : (m : Int) < x.kids
  ·obtain ⟨y, js, r, rfl⟩ : ∃ y js r, g = F.nd y js r := by cases g with | nil => simp only [F.num] at hmg; omega | nd y a c => exact ⟨y, a, c, rfl⟩
   simp only [F.num] at hmg
   simp only [F.size] at hgs hgl
   refine oS lsT (oZ hK5 (c_seq fun _ hK6 => ?_)); refine cTZ hK6 (c_seq fun _ hK7 => ?_); refine c_block (cR fun _ hK8 => ?_); refine oM (oM ?_); refine o_callP (ih y js (by omega) ra rc re kid (kid + 1 + js.size) hpg.one) rfl rfl rfl (fun _ st => (RdK.old0 hw).out _ st) (fun v22 hv22 => ?_); subst hv22
   refine oM ?_; refine oS sE ?_; refine oS sE (oA (oA (oZ hK8 (c_region (oM (oM ?_)))))); refine oS (step_cast (v' := .int .i64 ((max d (js.depth + 1) : Nat) : Int)) (s_max rfl rfl) (congrArg _ (by omega))) ?_; refine oM (oA (oA (o_nil (x_block (xZ hK7 (c_region ?_)))))); refine oS sD (oM (o_nil ?_)); exact x_then (x_inv (m + 1, kid + 1 + js.size, r, max d (js.depth + 1)) ⟨hpg.head.2.2, by dsimp only; omega, by dsimp only; omega, by dsimp only; simp only [F.depth] at hd; omega⟩ (by simp only [F.num]; omega) sbA (by exact HSub.nil))
  ·obtain rfl : g = F.nil := F.num_nil (by omega)
   obtain rfl : kid = i1 := by simp only [F.size] at hgl; omega
   simp only [F.depth] at hd
   refine oS lsF (oZ hK5 (c_seq fun _ hK9 => ?_)); refine cF ?_; refine c_exit ?_; refine x_then_exit (x_then_exit (x_block_exit (xZ hK3 (cR fun _ hK10 => ?_)))); refine oM ?_; refine oS (step_cast (v' := .int .i64 ((ks.depth + 1 : Nat) : Int)) (s_add rfl rfl (by omega)) (congrArg _ (by omega))) ?_; refine oM (oA (oA (oZ hK10 (c_ret ?_)))); refine ?_; exact x_ret rfl (.tmp rfl (.tmp rfl (.nil))) (rfl)
theorem dep_all : ∀ (n : Nat) (x : Nd) (ks : F), ks.size < n → DepC x ks
  | 0 => fun _ _ h => absurd h (Nat.not_lt_zero _)
  | n + 1 => fun x ks hn ra rc re i i1 hp => depth_step x ks (fun y js h => dep_all n y js (by omega)) ra rc re i i1 hp
theorem weight_fn (ra : Option Addr) (rc : Nat) (re : List Nd) (hre : ∀ x ∈ re, -128 ≤ x.op ∧ x.op < 128) (x : Nd) (ks : F) (hS : Shp re x ks) (hsb : shapedB re = true) : HL.Fn Tryd.prog 41 [.slice ra re.length rc] (fun W => Rd En W (.slice ra re.length rc) re) [] (fun v _ => v = .int .i64 (((F.nd x ks .nil).weight : Nat) : Int)) := by
  refine fn_of Tryd.func41 rfl rfl rfl fun w0 hw => ?_; refine cR fun _ hK1 => ?_; refine oA (oZ hK1 (c_seq fun _ hK2 => ?_)); refine cR fun _ hK3 => ?_; refine oM ?_; refine o_callP (shaped_fn ra rc re hre) rfl rfl rfl (fun _ st => (RdK.old0 hw).out _ st) (fun v6 hv6 => ?_)
  rw [hsb] at hv6
  subst hv6; refine oS (s_not rfl) ?_; refine oZ hK3 ?_; refine cFZ hK2 (cR fun _ hK4 => ?_); refine oM ?_; refine o_callP (weigh_fn (ks.size + 1) x ks (Nat.lt_succ_self _) ra rc re 0 re.length hre hS.part) rfl rfl rfl (fun _ st => (RdK.old0 hw).out _ st) (fun v10 hv10 => ?_)
  have hcw : cut (F.nd x ks .nil).weight = (F.nd x ks .nil).weight := by have := hS.weight; unfold cut; omega
  rw [hcw] at hv10
  subst hv10; refine oM ?_; refine oS sE ?_; refine oS sE (oA (oA (oZ hK4 (cR fun _ hK5 => ?_)))); refine oM (oA (oZ hK5 (c_ret ?_))); refine ?_; exact xR rfl rfl (rfl)
set_option maxHeartbeats 1000000 in
theorem enough_fn (ra : Option Addr) (rc : Nat) (re : List Nd) (hre : ∀ x ∈ re, -128 ≤ x.op ∧ x.op < 128) (n : Int) (hn : n ≤ 9223372036854775807) : HL.Fn Tryd.prog 10 [.slice ra re.length rc, .int .i64 n] (fun W => Rd En W (.slice ra re.length rc) re) [] (fun v _ => (¬ (shapedB re = true ∧ 0 ≤ n) ∧ v = .int .i64 0) ∨ ∃ x ks, Shp re x ks ∧ shapedB re = true ∧ 0 ≤ n ∧ v = .int .i64 ((enN ks ((F.nd x ks .nil).weight) re n.toNat : Nat) : Int)) := by
  refine fn_of Tryd.func10 rfl rfl rfl fun w0 hw => ?_
  have hsl := hw.sl
  have hbl := hsl.le
  refine cR fun _ hK1 => ?_; refine oA (oZ hK1 (c_seq fun _ hK2 => ?_)); refine cR fun _ hK3 => ?_; refine oM ?_; refine o_callP (shaped_fn ra rc re hre) rfl rfl rfl (fun _ st => (RdK.old0 hw).out _ st) (fun v13 hv13 => ?_); subst hv13
  cases hsb : shapedB re
  ·refine oS (s_not rfl) ?_; refine oM ?_; refine oN ?_; refine oN ?_; refine oS sT (oZ hK3 ?_); refine cT (cR fun _ hK4 => ?_); refine oA (oZ hK4 (c_ret ?_)); refine x_then_ret (?_); exact xR rfl rfl (.inl ⟨fun h => (by rw [hsb] at h; cases h.1), rfl⟩)
  ·obtain ⟨_, x, ks, hS⟩ := shapedB_iff.1 hsb
   have hlen := hS.len
   have hdep := hS.dep
   have hwt := hS.weight
   have hrl := refsI_le (re := re) re.length (Nat.le_refl _)
   rw [List.take_length] at hrl
   refine oS (s_not rfl) ?_; refine oM ?_; refine oY (oM ?_); refine oY ?_
   by_cases hn0 : n < 0
   ·refine oS lsT ?_; refine oS sP (oZ hK3 ?_); refine cT (cR fun _ hK5 => ?_); refine oA (oZ hK5 (c_ret ?_)); refine x_then_ret (?_); exact xR rfl rfl (.inl ⟨fun h => (by omega), rfl⟩)
   ·obtain ⟨n, rfl⟩ : ∃ m : Nat, n = m := ⟨n.toNat, by omega⟩
    refine oS lsF ?_; refine oS sP (oZ hK3 ?_); refine cFZ hK2 (cR fun _ hK6 => ?_); refine o_mmap2 (Ek := EkI) rfl fun b19 => ?_; refine oA (oZ hK6 (c_seq fun _ hK7 => ?_)); refine cR fun _ hK8 => ?_; refine oM ?_; refine oS sC (oM (oZ hK8 (c_block ?_))); refine c_loop3 (fun (q : Nat) (es : List (Mx Int)) (c : Nat) => q ≤ re.length ∧ CntI es (refsI (re.take q)) q) (fun (q : Nat) (es : List (Mx Int)) (c : Nat) => [(22, .int .i64 q)]) [(0, _), (1, _), (4, _), (5, _), (20, _), (21, _)] (fun (q : Nat) (es : List (Mx Int)) (c : Nat) => [(b19, mxO EkI es c)]) (fun (q : Nat) (es : List (Mx Int)) (c : Nat) => re.length - q) 0 [] 0 ⟨Nat.zero_le _, CntI.nil⟩ sbA sbA hzB ?_
    rintro q es c ⟨hql, hC⟩
    refine cR fun _ hK9 => ?_
    by_cases hq : (q : Int) < re.length
    ·obtain ⟨y, hy⟩ : ∃ y, re[q]? = some y := gE
     have hyr := hre y (List.mem_of_getElem? hy)
     refine oS lsT (oZ hK9 (c_seq fun _ hK10 => ?_)); refine cTZ hK10 (c_seq fun _ hK11 => ?_); refine c_block (cR fun _ hK12 => ?_); refine oS (s_idx rfl rfl hsl (by omega)) ?_; refine oS (s_ldB rfl ((RdK.old0 hw).lds q hy rfl) (by rfl)) ?_; refine o_alloc (l := En zN) (by rw [En_zero]; rfl) rfl fun b7 => ?_; refine o_stW rfl rfl upA lnA lnA onA ?_; refine oZ hK12 (cR fun _ hK13 => ?_); refine oS sF ?_; refine oS sL ?_
     by_cases h8 : y.op = 8
     ·obtain ⟨cn, hcn, hcq⟩ := hC.get y.n
      refine oS (eqT (h := h8)) ?_; refine oZ hK13 ?_; refine cT (c_region (oM ?_)); refine oS sF ?_; refine oS sL ?_; refine oS (step_cast (v' := .int .i64 (cn : Nat)) (s_look2 (Ek := EkI) (k := y.n) rfl rfl meA) hcn) ?_; refine oS (step_cast (v' := .int .i64 ((cn + 1 : Nat) : Int)) (s_add rfl rfl (by omega)) (congrArg _ (by omega))) ?_; refine o_mset2 (Ek := EkI) (k := y.n) rfl rfl rfl pkA fun es' c' hset hel => ?_; refine o_nil (x_block (xZ hK11 (c_region ?_))); refine oS sD (oM (o_nil ?_)); exact xI (q + 1, es', c') ⟨by dsimp only; omega, by dsimp only; rw [refsI_take hy, ref1, if_pos h8]; exact hC.set hcq hset hel⟩
     ·refine oS (eqF (h := h8)) ?_; refine oZ hK13 ?_; refine cF (c_skip (x_block (xZ hK11 (c_region ?_)))); refine oS sD (oM (o_nil ?_)); exact xI (q + 1, es, c) ⟨by dsimp only; omega, by dsimp only; rw [refsI_take hy, ref1, if_neg h8]; exact hC.up⟩
    ·obtain rfl : q = re.length := by omega
     rw [List.take_length] at hC
     refine oS lsF (oZ hK9 (c_seq fun _ hK14 => ?_)); refine cF ?_; refine c_exit ?_; refine x_then_exit (x_then_exit (x_block_exit (xZ hK7 (cR fun _ hK15 => ?_)))); refine oM ?_; refine o_callP (dep_all (ks.size + 1) x ks (Nat.lt_succ_self _) ra rc re 0 re.length hS.part) rfl rfl rfl (fun _ st => (RdK.old0 hw).out _ st) (fun v37 hv37 => ?_); subst hv37
     refine oM ?_; refine oS sE ?_; refine oS sE (oA (oA (oZ hK15 (cR fun _ hK16 => ?_)))); refine oM ?_; refine o_callP (weight_fn ra rc re hre x ks hS hsb) rfl rfl rfl (fun _ st => (RdK.old0 hw).out _ st) (fun v41 hv41 => ?_); subst hv41
     refine oS (step_cast (v' := .int .u64 (((F.nd x ks .nil).weight) : Nat)) (s_conv rfl) (congrArg _ (wrap_u64n (by omega)))) ?_; refine oM ?_; refine oS (step_cast (v' := .int .u64 (n : Nat)) (s_conv rfl) (congrArg _ (wrap_u64n (by omega)))) ?_; refine oS (step_cast (v' := .int .u64 ((n + 2 : Nat) : Int)) (s_addw rfl rfl) (congrArg _ (wrap_u64n (x := n + 2) (by omega)))) ?_; refine oA (oA (oZ hK16 (c_seq fun _ hK17 => ?_))); refine cR fun _ hK18 => ?_; refine oM ?_; refine oS (s_mul rfl rfl (by omega)) ?_; refine oM ?_; refine oS (step_cast (v' := .int .i64 ((refsI re).length : Nat)) (s_lenmap (Ek := EkI) rfl meA) (by rw [hC.len])) ?_; refine oS (s_mul rfl rfl (by omega)) ?_; refine oS sD ?_; refine oS (step_cast (v' := .int .i64 (((2 * (ks.depth + 1) + 2 * (refsI re).length + 4) : Nat) : Int)) (s_add rfl rfl (by omega)) (congrArg _ (by omega))) ?_; refine oM (oZ hK18 (c_block ?_))
     -- not carried: 4
     refine c_loop2 (fun (k : Nat) (out : Nat) => k ≤ (2 * (ks.depth + 1) + 2 * (refsI re).length + 4) ∧ out ≤ 4611686018427387904 ∧ enL (n + 2) ((2 * (ks.depth + 1) + 2 * (refsI re).length + 4) - k) out = enN ks ((F.nd x ks .nil).weight) re n) (fun (k : Nat) (out : Nat) => [(53, .int .i64 k), (10, .int .u64 out)]) [(11, _), (52, _)] (fun (k : Nat) (out : Nat) => [(b19, mxO EkI es c)]) (fun (k : Nat) (out : Nat) => (2 * (ks.depth + 1) + 2 * (refsI re).length + 4) - k) 0 ((F.nd x ks .nil).weight) ⟨Nat.zero_le _, by omega, rfl⟩ sbA sbA hzB ?_
     rintro k out ⟨hk, hou, hen⟩
     refine cR fun _ hK19 => ?_
     by_cases hkit : (k : Int) < (2 * (ks.depth + 1) + 2 * (refsI re).length + 4)
     ·refine oS lsT (oZ hK19 (c_seq fun _ hK20 => ?_)); refine cTZ hK20 (c_seq fun _ hK21 => ?_); refine c_block (c_seq fun _ hK22 => ?_); refine cR fun _ hK23 => ?_; refine oM (oM ?_); refine oS (step_cast (v' := .int .u64 ((4611686018427387904 / (n + 2) : Nat) : Int)) (s_quo rfl rfl (by omega)) (congrArg _ (by rw [show (4611686018427387904 : Int) = ((4611686018427387904 : Nat) : Int) from rfl, tdiv_nat]; exact wrap_u64n (by have := Nat.div_le_self 4611686018427387904 (n + 2); omega)))) ?_
      by_cases hbig : 4611686018427387904 / (n + 2) < out
      ·rw [show (2 * (ks.depth + 1) + 2 * (refsI re).length + 4) - k = ((2 * (ks.depth + 1) + 2 * (refsI re).length + 4) - (k + 1)) + 1 by omega, enL_yes hbig] at hen
       refine oS gtT (oZ hK23 ?_); refine cT (cR fun _ hK24 => ?_); refine oA (oZ hK24 (c_ret ?_)); refine x_then_ret (x_block_ret (x_then_ret (x_then_ret (x_block_ret (x_then_ret (?_))))))
       exact xR rfl rfl (.inr ⟨x, ks, hS, hsb, by omega, by rw [Int.toNat_natCast, ← hen]; rfl⟩)
      ·rw [show (2 * (ks.depth + 1) + 2 * (refsI re).length + 4) - k = ((2 * (ks.depth + 1) + 2 * (refsI re).length + 4) - (k + 1)) + 1 by omega, enL_no hbig] at hen
       have hmu := en_mul (b := n + 2) (by omega) hbig
       refine oS gtF (oZ hK23 ?_); refine cFZ hK22 (c_region (oM (oM ?_))); refine oS (step_cast (v' := .int .u64 ((out * (n + 2) : Nat) : Int)) (s_mulw rfl rfl) (congrArg _ (by rw [← Int.natCast_mul]; exact wrap_u64n (by omega)))) ?_; refine oA (o_nil (x_block (xZ hK21 (c_region ?_)))); refine oS sD (oM (o_nil ?_)); exact xI (k + 1, out * (n + 2)) ⟨by dsimp only; omega, hmu, hen⟩
     ·obtain rfl : k = (2 * (ks.depth + 1) + 2 * (refsI re).length + 4) := by omega
      rw [Nat.sub_self] at hen
      refine oS lsF (oZ hK19 (c_seq fun _ hK25 => ?_)); refine cF ?_; refine c_exit ?_; refine x_then_exit (x_then_exit (x_block_exit (xZ hK17 (cR fun _ hK26 => ?_)))); refine oM ?_; refine oS (step_cast (v' := .int .i64 (out : Nat)) (s_conv rfl) (congrArg _ (wrap_i64n (by omega)))) ?_; refine oA (oZ hK26 (c_ret ?_)); refine ?_; exact xR rfl rfl (.inr ⟨x, ks, hS, hsb, by omega, by rw [Int.toNat_natCast, ← hen]; rfl⟩)
end Go.Proofs.YtloepfcndglmmaaDoor
namespace Go.Proofs.YtloepfcndglmmaaDoor
open Go Go.HL Go.Proofs Go.HL.Kl
theorem has_fn (c : Cl) (x : Nat) (hx : x < 256) : HL.Fn Tryd.prog 83 [.agg (Ec c).toArray, .int .u8 x] (fun _ => True) [] (fun v _ => v = .bool (c.getLsbD x)) := by
  refine fn_of Tryd.func83 rfl rfl rfl fun w0 hw => ?_; refine cR fun _ hK1 => ?_; refine o_box rfl rfl rfl fun b2 => ?_; refine oA (oZ hK1 (cR fun _ hK2 => ?_)); refine oM ?_; refine oS (step_cast (v' := .int .u8 ((x / 64 : Nat) : Int)) (s_shr rfl rfl (by decide)) (congrArg _ (shr6_u8 hx))) ?_; refine oS (s_idx1 rfl rfl (by omega)) ?_; refine oS (s_ld rfl ((RdPK.own meA).cel (j := x / 64) (Ec_get _ (by omega)) (by omega))) ?_; refine oM ?_; refine oS (step_cast (v' := .int .u8 ((x % 64 : Nat) : Int)) (s_and rfl rfl) (congrArg _ (v_and63 hx))) ?_; refine oS (s_shr rfl rfl (by omega)) ?_; refine oS (s_and rfl rfl) ?_; refine oS (step_cast (v' := .bool (c.getLsbD x)) (s_eql rfl rfl) (congrArg Value.bool (hasB c hx))) ?_; refine oA (oZ hK2 (c_ret ?_)); refine ?_; exact xR rfl rfl (rfl)
end Go.Proofs.YtloepfcndglmmaaDoor
namespace Go.HL
open Go
def VI (agg : Bool) (xs : List Int) : Value := if agg then .agg (intsV .i64 xs).toArray else .int .i64 (xs.headD 0)
class QK (P : Program) (t : TypeId) (agg : outParam Bool) (d s : outParam Nat) : Prop where
  eq : ∀ (w : World) (n : Nat) (xs ys : List Int), d ≤ n → xs.length = s → ys.length = s → (Op.equalIn n t (VI agg xs) (VI agg ys)).run P w = .ok (decide (xs = ys)) w
  chk : ∀ (w : World) (n : Nat) (b : Bool) (xs : List Int), d ≤ n → xs.length = s → (Instr.checkKey b n t (VI agg xs)).run P w = .ok () w
  prt : ∀ (w : World) (cs : List Int) (o : Nat), o + s ≤ cs.length → (part t (intsV .i64 cs).toArray o).run P w = .ok (VI agg ((cs.drop o).take s)) w
section
variable {P : Program} {t e : TypeId}
instance QK.int [TU P t (.int .i64)] [TG P t true] : QK P t false 1 1 where
  eq := fun w n xs ys hn hx hy => by
    obtain ⟨m, rfl⟩ : ∃ m, n = m + 1 := ⟨n - 1, by omega⟩
    match xs, ys, hx, hy with
    | [a], [b], _, _ =>
      show (Op.equalIn (m + 1) t (.int .i64 a) (.int .i64 b)).run P w = _
      rw [re_int w m]
      congr 1
      by_cases h : a = b <;> simp [h]
  chk := fun w n b xs hn hx => by
    obtain ⟨m, rfl⟩ : ∃ m, n = m + 1 := ⟨n - 1, by omega⟩
    exact checkInt w
  prt := fun w cs o ho => by
    have hlt : o < cs.length := by omega
    have h : (intsV .i64 cs).toArray[o]? = some (.int .i64 cs[o]) := by simp [intsV, hlt]
    rw [part_plain h]
    have h2 : (cs.drop o).take 1 = [cs[o]] := by rw [List.drop_eq_getElem_cons hlt]; rfl
    rw [h2]; rfl
theorem agg_part {s b : Nat} [TG P t false] [TI P t s b] (w : World) (cs : List Int) (o : Nat) (_ho : o + s ≤ cs.length) : (part t (intsV .i64 cs).toArray o).run P w = .ok (VI true ((cs.drop o).take s)) w := by
  refine (part_agg (ys := (intsV .i64 ((cs.drop o).take s)).toArray) ?_).trans rfl
  apply Array.ext'
  rw [Array.toList_extract]
  simp [intsV, List.map_take, List.map_drop, List.extract_eq_take_drop]
inductive QF (P : Program) (d : Nat) : List (Nat × Nat) → Nat → Nat → Prop
  | nil {s : Nat} : QF P d [] s s
  | cons {e o s de se : Nat} {l : List (Nat × Nat)} {agg : Bool} (q : QK P e agg de se) (hd : de ≤ d) (h : QF P d l (o + se) s) : QF P d ((e, o) :: l) o s
theorem QF.le {d : Nat} {l : List (Nat × Nat)} {o s : Nat} (h : QF P d l o s) : o ≤ s := by
  induction h with
  | nil => exact Nat.le_refl _
  | cons q hd h ih => omega
theorem QF.fq {d : Nat} {l : List (Nat × Nat)} {o s : Nat} (h : QF P d l o s) {n : Nat} (hn : d ≤ n + 1) {xs ys : List Int} (hx : xs.length = s) (hy : ys.length = s) (w : World) : FQ P w n (intsV .i64 xs).toArray (intsV .i64 ys).toArray l (decide (xs.drop o = ys.drop o)) := by
  induction h with
  | @nil s =>
    have : decide (xs.drop s = ys.drop s) = true := by rw [decide_eq_true_eq, List.drop_of_length_le (by omega), List.drop_of_length_le (by omega)]
    rw [this]; exact .nil
  | @cons e o s de se l agg q hd h ih =>
    have hle := h.le
    have e1 : decide (xs.drop o = ys.drop o) = (decide ((xs.drop o).take se = (ys.drop o).take se) && decide (xs.drop (o + se) = ys.drop (o + se))) := by
      rw [Bool.eq_iff_iff, Bool.and_eq_true, decide_eq_true_eq, decide_eq_true_eq, decide_eq_true_eq]
      constructor
      · intro h
        exact ⟨by rw [h], by rw [← List.drop_drop, ← List.drop_drop, h]⟩
      · rintro ⟨h1, h2⟩
        rw [← List.take_append_drop se (xs.drop o), ← List.take_append_drop se (ys.drop o), h1, List.drop_drop, List.drop_drop, h2]
    rw [e1]
    exact .cons (q.prt w xs o (by omega)) (q.prt w ys o (by omega)) (q.eq w (n + 1) _ _ (by omega) (by rw [List.length_take, List.length_drop]; omega) (by rw [List.length_take, List.length_drop]; omega)) (ih hx hy)
theorem QF.mem {d : Nat} {l : List (Nat × Nat)} {o s : Nat} (h : QF P d l o s) : ∀ p ∈ l, ∃ agg de se, QK P p.1 agg de se ∧ de ≤ d ∧ p.2 + se ≤ s := by
  induction h with
  | nil => intro p hp; cases hp
  | cons q hd h ih =>
    intro p hp
    rcases List.mem_cons.1 hp with rfl | hp
    · exact ⟨_, _, _, q, hd, h.le⟩
    · exact ih p hp
theorem QK.struct {d s b : Nat} {l : List (Nat × Nat)} [Go.HL.TQ P t l] [TG P t false] [TI P t s b] (hd : 1 ≤ d) (hf : QF P d l 0 s) : QK P t true (d + 1) s where
  eq := fun w n xs ys hn hx hy => by
    obtain ⟨m, rfl⟩ : ∃ m, n = m + 2 := ⟨n - 2, by omega⟩
    have := re_struct (P := P) (t := t) (hf.fq (n := m) (by omega) hx hy w)
    simpa [VI] using this
  chk := fun w n b xs hn hx => by
    obtain ⟨m, rfl⟩ : ∃ m, n = m + 1 := ⟨n - 1, by omega⟩
    obtain ⟨fs, hu, hl⟩ := ky_struct (P := P) (t := t) (l := l)
    show (Instr.checkKey b (m + 1) t (.agg (intsV .i64 xs).toArray)).run P w = .ok () w
    unfold Instr.checkKey
    rw [Sem.run_bind, run_underlying hu, Result.andThen_ok]
    simp only []
    rw [← Array.forIn_toList, Sem.run_bind]
    refine (congrArg (fun r => Result.andThen r _) (forIn_ok fun f hfm => ?_)).trans (by simp)
    have hm : (f.type, f.offset) ∈ l := by rw [← hl]; exact List.mem_map.2 ⟨f, hfm, rfl⟩
    obtain ⟨agg, de, se, q, hde, hle⟩ := hf.mem _ hm
    have hpp := q.prt w xs f.offset (by simp only at hle; omega)
    split
    · simp only [Sem.run_bind, hpp, Result.andThen_ok]
      rw [q.chk w m b _ (by omega) (by rw [List.length_take, List.length_drop]; simp only at hle; omega), Result.andThen_ok, Sem.run_pure]
    · simp
  prt := fun w cs o ho => agg_part w cs o ho
theorem QK.arr {m e d se b b' : Nat} {agg : Bool} [TU P t (.array m e)] [TG P t false] [TI P t (m * se) b] [TI P e se b'] (q : QK P e agg d se) : QK P t true (d + 1) (m * se) where
  eq := fun w n xs ys hn hx hy => by
    obtain ⟨n, rfl⟩ : ∃ k, n = k + 1 := ⟨n - 1, by omega⟩
    have hmul : ∀ i, i < m → i * se + se ≤ m * se := fun i hi => by rw [← Nat.succ_mul]; exact Nat.mul_le_mul_right _ hi
    show (Op.equalIn (n + 1) t (.agg (intsV .i64 xs).toArray) (.agg (intsV .i64 ys).toArray)).run P w = _
    unfold Op.equalIn
    simp only [Sem.run_bind, run_u, Result.andThen_ok, run_size]
    rw [Std.Legacy.Range.forIn_eq_forIn_range']
    have := run_forIn (P := P) (f := fun i _ => do
            let a ← part e (intsV .i64 xs).toArray (i * se)
            let b ← part e (intsV .i64 ys).toArray (i * se)
            let c ← Op.equalIn n e a b
            if (!c) = true then pure (ForInStep.done (some false, ())) else pure (ForInStep.yield (none, ()))) (fun i => decide ((xs.drop (i * se)).take se = (ys.drop (i * se)).take se)) w (List.range' 0 m) (by
      intro i hi
      have him : i < m := by simpa using hi
      have h3 := hmul i him
      rw [Sem.run_bind, q.prt w xs (i * se) (by omega), Result.andThen_ok, Sem.run_bind, q.prt w ys (i * se) (by omega), Result.andThen_ok, Sem.run_bind, q.eq w n _ _ (by omega) (by rw [List.length_take, List.length_drop]; omega) (by rw [List.length_take, List.length_drop]; omega), Result.andThen_ok]
      by_cases hq : (xs.drop (i * se)).take se = (ys.drop (i * se)).take se <;> simp [hq])
    have hsz : ([:m] : Std.Legacy.Range).size = m := by simp [Std.Legacy.Range.size]
    simp only [hsz]
    simp only [this, Result.andThen_ok]
    have hall : (List.range' 0 m).all (fun i => decide ((xs.drop (i * se)).take se = (ys.drop (i * se)).take se)) = decide (xs = ys) := by
      rw [Bool.eq_iff_iff, List.all_eq_true, decide_eq_true_eq]
      constructor
      · intro h
        have key : ∀ k, k ≤ m → xs.take (k * se) = ys.take (k * se) := by
          intro k
          induction k with
          | zero => intro _; simp
          | succ k ih =>
            intro hk
            have h1 := h k (by simp; omega)
            rw [decide_eq_true_eq] at h1
            rw [Nat.succ_mul, List.take_add, List.take_add, ih (by omega), h1]
        have h2 := key m (Nat.le_refl _)
        rwa [List.take_of_length_le (by omega), List.take_of_length_le (by omega)] at h2
      · intro h i _; simp [h]
    rw [hall]
    by_cases h : xs = ys <;> simp [h]
  chk := fun w n b xs hn hx => by
    obtain ⟨n, rfl⟩ : ∃ k, n = k + 1 := ⟨n - 1, by omega⟩
    have hmul : ∀ i, i < m → i * se + se ≤ m * se := fun i hi => by rw [← Nat.succ_mul]; exact Nat.mul_le_mul_right _ hi
    show (Instr.checkKey b (n + 1) t (.agg (intsV .i64 xs).toArray)).run P w = .ok () w
    unfold Instr.checkKey
    rw [Sem.run_bind, run_u, Result.andThen_ok]
    simp only []
    rw [Sem.run_bind, Std.Legacy.Range.forIn_eq_forIn_range']
    refine (congrArg (fun r => Result.andThen r _) (forIn_ok fun i hi => ?_)).trans (by simp)
    have hsz : ([:m] : Std.Legacy.Range).size = m := by simp [Std.Legacy.Range.size]
    have him : i < m := by rw [hsz] at hi; simpa using hi
    have h3 := hmul i him
    simp only [Sem.run_bind, run_size, Result.andThen_ok, q.prt w xs (i * se) (by omega)]
    rw [q.chk w n b _ (by omega) (by rw [List.length_take, List.length_drop]; omega), Result.andThen_ok, Sem.run_pure]
  prt := fun w cs o ho => agg_part w cs o ho
theorem KE.of {κ : Type} [DecidableEq κ] {Ei : κ → List Int} {s d : Nat} [q : QK P t true d s] (hs : ∀ k, (Ei k).length = s) (hi : ∀ a b, Ei a = Ei b → a = b) (hd : d ≤ 10000) (hst : ∃ fs, P.underlying t = some (.struct fs)) : KE P t (fun k : κ => .agg (intsV .i64 (Ei k)).toArray) where
  eq := fun w a b => by
    have h := q.eq w 10000 (Ei a) (Ei b) hd (hs a) (hs b)
    have e : decide (Ei a = Ei b) = decide (a = b) := by
      rw [Bool.eq_iff_iff, decide_eq_true_eq, decide_eq_true_eq]
      exact ⟨hi a b, fun h => by rw [h]⟩
    rw [e] at h
    exact h
  check := fun w b k => q.chk w 10000 b (Ei k) hd (hs k)
  bits := fun k => by
    show Instr.sameBits (9999 + 1) _ _ = true
    simp only [Instr.sameBits, beq_self_eq_true, Bool.true_and, List.all_eq_true]
    intro p hp
    have h1 : ∀ (l : List Int) (p : Value × Value), p ∈ (intsV .i64 l).zip (intsV .i64 l) → ∃ a, p = (.int .i64 a, .int .i64 a) := by
      intro l
      induction l with
      | nil => intro p hp; simp [intsV] at hp
      | cons a l ih =>
        intro p hp
        have e : intsV .i64 (a :: l) = .int .i64 a :: intsV .i64 l := rfl
        rw [e, List.zip_cons_cons] at hp
        rcases List.mem_cons.1 hp with rfl | hp
        · exact ⟨a, rfl⟩
        · exact ih p hp
    obtain ⟨a, rfl⟩ := h1 _ p hp
    simp [Instr.sameBits]
  und := by
    obtain ⟨fs, hu⟩ := hst
    exact ⟨_, hu, .inl fun a b => rfl⟩
end
end Go.HL
namespace Go.HL.Kl.Mc
open Go Go.HL Go.HL.Kl
abbrev Caps := List Sp
def em1 (c : Caps) (x : Nd) : Caps := if x.op = 7 then c.set (x.n.toNat - 1) noS else c
def emp (l : List Nd) (c : Caps) : Caps := l.foldl em1 c
theorem em1_len (c : Caps) (x : Nd) : (em1 c x).length = c.length := by unfold em1; split <;> simp
theorem emp_len : ∀ (l : List Nd) (c : Caps), (emp l c).length = c.length
  | [], c => rfl
  | x :: l, c => by show (emp l (em1 c x)).length = _; rw [emp_len l, em1_len]
def sameAt (w : List UInt8) (x : Sp) (i j : Nat) : Bool := decide (0 ≤ x.fr ∧ x.to - x.fr = (j : Int) - i) && decide ((w.drop x.fr.toNat).take (j - i) = (w.drop i).take (j - i))
def down (p : Nat) : Nat → List Nat
  | 0 => []
  | k + 1 => (p + k) :: down p k
def ends (p q : Nat) : List Nat := down p (q + 1 - p)
theorem mem_down {p e : Nat} : ∀ {k : Nat}, e ∈ down p k ↔ p ≤ e ∧ e < p + k
  | 0 => by simp only [down, List.not_mem_nil, false_iff]; omega
  | k + 1 => by rw [down, List.mem_cons, mem_down]; omega
theorem mem_ends {p q e : Nat} : e ∈ ends p q ↔ p ≤ e ∧ e ≤ q := by rw [ends, mem_down]; omega
def RL (x : Nd) (B : Nat → Nat → Caps → List Caps) (q : Nat) : Nat → Nat → Nat → Caps → List Caps
  | 0, _, _, _ => []
  | f + 1, had, p, c =>
    (if x.mx = -1 ∨ (had : Int) < x.mx then (ends p q).flatMap (fun e => if e = p ∧ x.mn ≤ (had : Int) ∧ 0 < had then [] else (B p e c).flatMap (fun c1 => RL x B q f (had + 1) e c1)) else []) ++
    (if p = q ∧ x.mn ≤ (had : Int) then [c] else [])
def fuelR (x : Nd) (q had p : Nat) : Nat := (q - p) + (max x.mn.toNat 1 - had) + 1
def RLf (x : Nd) (B : Nat → Nat → Caps → List Caps) (q had p : Nat) (c : Caps) : List Caps := RL x B q (fuelR x q had p) had p c
theorem flatMap_congr' {α β : Type} {f g : α → List β} : ∀ {l : List α}, (∀ a ∈ l, f a = g a) → l.flatMap f = l.flatMap g
  | [], _ => rfl
  | a :: l, h => by rw [List.flatMap_cons, List.flatMap_cons, h a List.mem_cons_self, flatMap_congr' fun b hb => h b (List.mem_cons_of_mem _ hb)]
theorem RL_fuel {x : Nd} {B : Nat → Nat → Caps → List Caps} {q : Nat} : ∀ (f f' had p : Nat) (c : Caps), fuelR x q had p ≤ f → fuelR x q had p ≤ f' → RL x B q f had p c = RL x B q f' had p c
  | 0, _, had, p, c, h, _ => by unfold fuelR at h; omega
  | f + 1, 0, had, p, c, _, h => by unfold fuelR at h; omega
  | f + 1, f' + 1, had, p, c, h, h' => by
    rw [RL, RL]
    congr 1
    split
    · refine flatMap_congr' fun e he => ?_
      have he := mem_ends.1 he
      split
      · rfl
      · rename_i hn
        refine flatMap_congr' fun c1 _ => RL_fuel f f' (had + 1) e c1 ?_ ?_ <;> (unfold fuelR at h h' ⊢; omega)
    · rfl
theorem RLf_eq {x : Nd} {B : Nat → Nat → Caps → List Caps} {q had p : Nat} {c : Caps} : RLf x B q had p c =
    (if x.mx = -1 ∨ (had : Int) < x.mx then (ends p q).flatMap (fun e => if e = p ∧ x.mn ≤ (had : Int) ∧ 0 < had then [] else (B p e c).flatMap (fun c1 => RLf x B q (had + 1) e c1)) else []) ++
    (if p = q ∧ x.mn ≤ (had : Int) then [c] else []) := by
  have e0 : RLf x B q had p c = RL x B q (fuelR x q had p + 1) had p c := RL_fuel _ _ _ _ _ (Nat.le_refl _) (by omega)
  rw [e0, RL]
  congr 1
  split
  · refine flatMap_congr' fun e he => ?_
    have he := mem_ends.1 he
    split
    · rfl
    · exact flatMap_congr' fun c1 _ => RL_fuel _ _ _ _ _ (by unfold fuelR; omega) (Nat.le_refl _)
  · rfl
theorem RLf_cap {x : Nd} {B : Nat → Nat → Caps → List Caps} {q : Nat} (hx : x.mx = -1) : ∀ (n had had' p : Nat) (c : Caps), q + 1 - p ≤ n → max x.mn.toNat 1 ≤ had → max x.mn.toNat 1 ≤ had' → RLf x B q had p c = RLf x B q had' p c := by
  intro n
  induction n with
  | zero =>
    intro had had' p c hn h1 h2
    rw [RLf_eq, RLf_eq]
    have e0 : ends p q = [] := by rw [ends, show q + 1 - p = 0 by omega]; rfl
    rw [e0, if_neg (show ¬ (p = q ∧ x.mn ≤ (had : Int)) by omega), if_neg (show ¬ (p = q ∧ x.mn ≤ (had' : Int)) by omega)]
    simp
  | succ n ih =>
    intro had had' p c hn h1 h2
    rw [RLf_eq, RLf_eq, if_pos (show x.mx = -1 ∨ (had : Int) < x.mx from .inl hx), if_pos (show x.mx = -1 ∨ (had' : Int) < x.mx from .inl hx)]
    congr 1
    · refine flatMap_congr' fun e he => ?_
      have he := mem_ends.1 he
      by_cases ep : e = p
      · rw [if_pos (show e = p ∧ x.mn ≤ (had : Int) ∧ 0 < had from ⟨ep, by omega, by omega⟩), if_pos (show e = p ∧ x.mn ≤ (had' : Int) ∧ 0 < had' from ⟨ep, by omega, by omega⟩)]
      · rw [if_neg (fun h => ep h.1), if_neg (fun h => ep h.1)]
        exact flatMap_congr' fun c1 _ => ih _ _ e c1 (by omega) (by omega) (by omega)
    · have e1 : (p = q ∧ x.mn ≤ (had : Int)) = (p = q ∧ x.mn ≤ (had' : Int)) := propext ⟨fun h => ⟨h.1, by omega⟩, fun h => ⟨h.1, by omega⟩⟩
      simp only [e1]
def LF (w : List UInt8) : F → Bool → Nat → Nat → Caps → List Caps
  | .nil, md, i, j, c => if md = false ∧ i = j then [c] else []
  | .nd x ks r, md, i, j, c =>
    let one : Nat → Nat → Caps → List Caps := fun i j c =>
      if x.op = 1 then (if j = i + 1 ∧ (∃ b, w[i]? = some b ∧ x.set.getLsbD b.toNat = true) then [c] else [])
      else if x.op = 2 then (if i = 0 ∧ j = 0 then [c] else [])
      else if x.op = 3 then (if i = w.length ∧ j = w.length then [c] else [])
      else if x.op = 8 then (if sameAt w (c.getD (x.n.toNat - 1) noS) i j = true then [c] else [])
      else if x.op = 5 then LF w ks true i j c
      else if x.op = 6 then RLf x (fun p e c => LF w ks false p e (emp ks.flat c)) j 0 i c
      else if x.op = 7 then (LF w ks false i j (emp ks.flat c)).map (fun d => d.set (x.n.toNat - 1) ⟨i, j⟩)
      else LF w ks false i j c
    if md = true then one i j c ++ LF w r true i j c
    else (ends i j).flatMap (fun e => (one i e c).flatMap (fun c1 => LF w r false e j c1))
def moreC (l : List Caps) (c : Caps) : List Caps := if c ∈ l then l else l ++ [c]
def addC (l m : List Caps) : List Caps := m.foldl moreC l
theorem addC_app {l m n : List Caps} : addC l (m ++ n) = addC (addC l m) n := List.foldl_append
theorem addC_one {l : List Caps} {c : Caps} : addC l [c] = moreC l c := rfl
theorem moreC_mem {l : List Caps} {c d : Caps} : d ∈ moreC l c ↔ d ∈ l ∨ d = c := by
  unfold moreC
  split
  · exact ⟨.inl, fun h => h.elim id fun h => h ▸ ‹c ∈ l›⟩
  · simp
theorem addC_mem {d : Caps} : ∀ {m l : List Caps}, d ∈ addC l m ↔ d ∈ l ∨ d ∈ m
  | [], l => by simp [addC]
  | c :: m, l => by
    show d ∈ addC (moreC l c) m ↔ _
    rw [addC_mem, moreC_mem, List.mem_cons, or_assoc]
theorem addC_sub : ∀ {m l : List Caps}, (∀ c ∈ m, c ∈ l) → addC l m = l
  | [], l, _ => rfl
  | c :: m, l, h => by
    show addC (moreC l c) m = l
    rw [show moreC l c = l from if_pos (h c List.mem_cons_self)]
    exact addC_sub fun d hd => h d (List.mem_cons_of_mem _ hd)
theorem list_rev {α : Type} {p : List α → Prop} (h0 : p []) (h1 : ∀ l a, p l → p (l ++ [a])) (l : List α) : p l := by
  have key : ∀ m : List α, p m.reverse := by
    intro m
    induction m with
    | nil => exact h0
    | cons a m ih => rw [List.reverse_cons]; exact h1 _ _ ih
  rw [← List.reverse_reverse l]
  exact key _
theorem addC_ddp {l m : List Caps} : addC l (addC [] m) = addC l m := by
  induction m using list_rev with
  | h0 => rfl
  | h1 m c ih =>
    rw [addC_app, addC_app, addC_one, addC_one]
    by_cases h : c ∈ m
    · rw [show moreC (addC [] m) c = addC [] m from if_pos (addC_mem.2 (.inr h)), ih, show moreC (addC l m) c = addC l m from if_pos (addC_mem.2 (.inr h))]
    · rw [show moreC (addC [] m) c = addC [] m ++ [c] from if_neg (fun h' => (addC_mem.1 h').elim (fun h' => by cases h') h), addC_app, ih, addC_one]
theorem addC_flat {l m : List Caps} {f : Caps → List Caps} : addC l ((addC [] m).flatMap f) = addC l (m.flatMap f) := by
  induction m using list_rev with
  | h0 => rfl
  | h1 m c ih =>
    rw [addC_app, addC_one, List.flatMap_append, addC_app, ← ih]
    by_cases h : c ∈ m
    · rw [show moreC (addC [] m) c = addC [] m from if_pos (addC_mem.2 (.inr h))]
      rw [addC_sub (l := addC l _)]
      intro d hd
      rw [List.flatMap_cons, List.flatMap_nil, List.append_nil] at hd
      exact addC_mem.2 (.inr (List.mem_flatMap.2 ⟨c, addC_mem.2 (.inr h), hd⟩))
    · rw [show moreC (addC [] m) c = addC [] m ++ [c] from if_neg (fun h' => (addC_mem.1 h').elim (fun h' => by cases h') h), List.flatMap_append, addC_app]
theorem ddp_head {m : List Caps} : (addC [] m).head? = m.head? := by
  cases m with
  | nil => rfl
  | cons c m =>
    have key : ∀ (m l : List Caps) (c : Caps), (addC (c :: l) m).head? = some c := by
      intro m
      induction m with
      | nil => intro l c; rfl
      | cons d m ih =>
        intro l c
        show (addC (moreC (c :: l) d) m).head? = _
        unfold moreC
        split
        · exact ih l c
        · exact ih (l ++ [d]) c
    show (addC (moreC [] c) m).head? = _
    exact key m [] c
def Sim (R : Nat → Prop) (c c' : Caps) : Prop := c.length = c'.length ∧ ∀ n, R n → c[n]? = c'[n]?
theorem Sim.set {R : Nat → Prop} {c c' : Caps} (h : Sim R c c') (n : Nat) (s : Sp) : Sim R (c.set n s) (c'.set n s) := by
  refine ⟨by simp [h.1], fun m hm => ?_⟩
  by_cases e : n = m
  · subst e
    by_cases hl : n < c.length
    · rw [List.getElem?_set_self hl, List.getElem?_set_self (by rw [← h.1]; exact hl)]
    · rw [List.getElem?_eq_none (by simp; omega), List.getElem?_eq_none (by simp [← h.1]; omega)]
  · rw [List.getElem?_set_ne e, List.getElem?_set_ne e, h.2 m hm]
theorem Sim.emp {R : Nat → Prop} : ∀ (l : List Nd) {c c' : Caps}, Sim R c c' → Sim R (emp l c) (emp l c')
  | [], c, c', h => h
  | x :: l, c, c', h => by
    show Sim R (Mc.emp l (em1 c x)) (Mc.emp l (em1 c' x))
    refine Sim.emp l ?_
    unfold em1
    split
    · exact h.set _ _
    · exact h
inductive SimL (R : Nat → Prop) : List Caps → List Caps → Prop
  | nil : SimL R [] []
  | cons {c c' : Caps} {l l' : List Caps} (h : Sim R c c') (t : SimL R l l') : SimL R (c :: l) (c' :: l')
theorem SimL.app {R : Nat → Prop} {l l' m m' : List Caps} (h : SimL R l l') (h' : SimL R m m') : SimL R (l ++ m) (l' ++ m') := by
  induction h with
  | nil => exact h'
  | cons a _ ih => exact .cons a ih
theorem SimL.flat {R : Nat → Prop} {f f' : Caps → List Caps} (hf : ∀ c c', Sim R c c' → SimL R (f c) (f' c')) {l l' : List Caps} (h : SimL R l l') : SimL R (l.flatMap f) (l'.flatMap f') := by
  induction h with
  | nil => exact .nil
  | cons a _ ih => rw [List.flatMap_cons, List.flatMap_cons]; exact (hf _ _ a).app ih
theorem SimL.flat1 {R : Nat → Prop} {α : Type} {f f' : α → List Caps} : ∀ (l : List α), (∀ a ∈ l, SimL R (f a) (f' a)) → SimL R (l.flatMap f) (l.flatMap f')
  | [], _ => .nil
  | a :: l, h => by rw [List.flatMap_cons, List.flatMap_cons]; exact (h a List.mem_cons_self).app (SimL.flat1 l fun b hb => h b (List.mem_cons_of_mem _ hb))
theorem SimL.map {R : Nat → Prop} {f : Caps → Caps} (hf : ∀ c c', Sim R c c' → Sim R (f c) (f c')) {l l' : List Caps} (h : SimL R l l') : SimL R (l.map f) (l'.map f) := by
  induction h with
  | nil => exact .nil
  | cons a _ ih => exact .cons (hf _ _ a) ih
theorem SimL.ite {R : Nat → Prop} {p : Prop} [Decidable p] {l l' : List Caps} (h : SimL R l l') : SimL R (if p then l else []) (if p then l' else []) := by
  split
  · exact h
  · exact .nil
theorem RLf_sim {R : Nat → Prop} {x : Nd} {B : Nat → Nat → Caps → List Caps} {q : Nat} (hB : ∀ p e c c', Sim R c c' → SimL R (B p e c) (B p e c')) : ∀ (f had p : Nat) (c c' : Caps), Sim R c c' → SimL R (RL x B q f had p c) (RL x B q f had p c')
  | 0, _, _, _, _, _ => .nil
  | f + 1, had, p, c, c', h => by
    rw [RL, RL]
    refine SimL.app (SimL.ite ?_) (SimL.ite (.cons h .nil))
    refine SimL.flat1 _ fun e _ => ?_
    split
    · exact .nil
    · exact (hB _ _ _ _ h).flat fun c1 c1' h1 => RLf_sim hB f _ _ _ _ h1
def refd (l : List Nd) (n : Nat) : Prop := ∃ x ∈ l, x.op = 8 ∧ x.n.toNat - 1 = n
theorem LF_sim {w : List UInt8} {R : Nat → Prop} : ∀ (f : F) (md : Bool) (i j : Nat) (c c' : Caps), (∀ n, refd f.flat n → R n) → Sim R c c' → SimL R (LF w f md i j c) (LF w f md i j c')
  | .nil, md, i, j, c, c', _, h => by rw [LF, LF]; exact SimL.ite (.cons h .nil)
  | .nd x ks r, md, i, j, c, c', hR, h => by
    have hks : ∀ n, refd ks.flat n → R n := fun n ⟨y, hy, h1, h2⟩ => hR n ⟨y, by simp [F.flat, hy], h1, h2⟩
    have hr : ∀ n, refd r.flat n → R n := fun n ⟨y, hy, h1, h2⟩ => hR n ⟨y, by simp [F.flat, hy], h1, h2⟩
    have hone : ∀ i j c c', Sim R c c' → SimL R
      (if x.op = 1 then (if j = i + 1 ∧ (∃ b, w[i]? = some b ∧ x.set.getLsbD b.toNat = true) then [c] else [])
      else if x.op = 2 then (if i = 0 ∧ j = 0 then [c] else [])
      else if x.op = 3 then (if i = w.length ∧ j = w.length then [c] else [])
      else if x.op = 8 then (if sameAt w (c.getD (x.n.toNat - 1) noS) i j = true then [c] else [])
      else if x.op = 5 then LF w ks true i j c
      else if x.op = 6 then RLf x (fun p e c => LF w ks false p e (emp ks.flat c)) j 0 i c
      else if x.op = 7 then (LF w ks false i j (emp ks.flat c)).map (fun d => d.set (x.n.toNat - 1) ⟨i, j⟩)
      else LF w ks false i j c)
      (if x.op = 1 then (if j = i + 1 ∧ (∃ b, w[i]? = some b ∧ x.set.getLsbD b.toNat = true) then [c'] else [])
      else if x.op = 2 then (if i = 0 ∧ j = 0 then [c'] else [])
      else if x.op = 3 then (if i = w.length ∧ j = w.length then [c'] else [])
      else if x.op = 8 then (if sameAt w (c'.getD (x.n.toNat - 1) noS) i j = true then [c'] else [])
      else if x.op = 5 then LF w ks true i j c'
      else if x.op = 6 then RLf x (fun p e c => LF w ks false p e (emp ks.flat c)) j 0 i c'
      else if x.op = 7 then (LF w ks false i j (emp ks.flat c')).map (fun d => d.set (x.n.toNat - 1) ⟨i, j⟩)
      else LF w ks false i j c') := by
      intro i j c c' h
      split
      · exact SimL.ite (.cons h .nil)
      split
      · exact SimL.ite (.cons h .nil)
      split
      · exact SimL.ite (.cons h .nil)
      split
      · rename_i h8
        have e : c.getD (x.n.toNat - 1) noS = c'.getD (x.n.toNat - 1) noS := by
          rw [List.getD_eq_getElem?_getD, List.getD_eq_getElem?_getD, h.2 _ (hR _ ⟨x, by simp [F.flat], h8, rfl⟩)]
        rw [e]; exact SimL.ite (.cons h .nil)
      split
      · exact LF_sim ks true i j c c' hks h
      split
      · exact RLf_sim (fun p e c c' h => LF_sim ks false p e _ _ hks (h.emp _)) _ _ _ _ _ h
      split
      · exact (LF_sim ks false i j _ _ hks (h.emp _)).map fun c c' h => h.set _ _
      · exact LF_sim ks false i j c c' hks h
    rw [LF, LF]
    cases md with
    | true =>
      simp only [if_true]
      exact (hone i j c c' h).app (LF_sim r true i j c c' hr h)
    | false =>
      simp only [Bool.false_eq_true, if_false]
      exact SimL.flat1 _ fun e _ => (hone i e c c' h).flat fun c1 c1' h1 => LF_sim r false e j _ _ hr h1
def CodeP (T n : Nat) (v : Value) (S' : Hp) : Prop := ∃ (a : Option Addr) (c : Nat) (m : List In), v = .slice a m.length c ∧ m.length = n ∧ OwnS Ein 7 T (.slice a m.length c) m S'
def CodeC (P : Program) (fn T : Nat) (x : Nd) (ks : F) : Prop := ∀ (ma : Option Addr) (mc : Nat) (m : List In) (Sm : Hp) (ra : Option Addr) (rc : Nat) (re : List Nd) (i i1 : Nat), (∀ x ∈ re, -128 ≤ x.op ∧ x.op < 128) → (∀ x ∈ re, ¬ x.op = 8) → re.length ≤ 1000000 → Part re (.nd x ks .nil) i i1 → OwnS Ein 7 T (.slice ma m.length mc) m Sm → m.length + lenT x ks ≤ 70000 →
  Fn P fn [.slice ma m.length mc, .slice ra re.length rc, .int .i64 i] (fun W => Rd En W (.slice ra re.length rc) re ∧ Apart (keys Sm) (.slice ra re.length rc)) Sm (CodeP T (m.length + lenT x ks))
end Go.HL.Kl.Mc
namespace Go.HL.Kl.Mc
open Go Go.HL Go.HL.Kl Go.RowKit Go.ChangeShapes Go.WideShapes Go.ChangeAt
def Ew1 (w : BitVec 64) : List Value := [Ew w]
instance : Enc Ew1 1 := ⟨fun _ => rfl, fun _ v hv => by simp [Ew1, Ew] at hv; subst hv; rfl⟩
theorem open_u64 {P : Program} {t : TypeId} (ht : P.underlying t = some (.int .u64)) : Opens P t Ew1 (fun _ _ => True) := by
  refine ⟨fun enc w fuel cs x h _ => ?_⟩
  obtain ⟨n, rfl, _, hw⟩ := DataW.trod_int ht h
  have hb : 0 ≤ n ∧ n ≤ 18446744073709551615 := by
    simp only [Lit.wf] at hw
    simpa [IntKind.min, IntKind.max, IntKind.signed, IntKind.bits] using hw
  refine ⟨BitVec.ofNat 64 n.toNat, ?_, trivial⟩
  have e : (BitVec.ofNat 64 n.toNat).toNat = n.toNat := by
    rw [BitVec.toNat_ofNat]
    exact Nat.mod_eq_of_lt (by rw [show (2 : Nat) ^ 64 = 18446744073709551616 from by decide]; omega)
  simp only [Ew1, Ew, e, List.cons.injEq, Value.int.injEq, true_and, and_true]
  omega
def mk4 (a b c d : BitVec 64) : Cl := setw (setw (setw (setw 0 0 a) 1 b) 2 c) 3 d
theorem mk4_wd (a b c d : BitVec 64) : Ec (mk4 a b c d) = [Ew a, Ew b, Ew c, Ew d] := by
  simp [Ec, mk4, wd_setw]
theorem open_cl {P : Program} {t e : TypeId} (ht : P.underlying t = some (.array 4 e)) (he : P.underlying e = some (.int .u64)) (hk : P.cellsOf e = 1) (hc : P.cellsOf t = 4) : Opens P t Ec (fun _ _ => True) := by
  refine ⟨fun enc w fuel cs x h hw => ?_⟩
  obtain ⟨xs, rfl, hl, _⟩ := (open_array ht hk (by rw [hc]) (open_u64 he)).out enc w fuel cs x h hw
  match xs, hl with
  | [a, b, c, d], _ => exact ⟨mk4 a b c d, by rw [mk4_wd]; rfl, trivial⟩
def Ei8 (n : Int) : List Value := [.int .i8 n]
instance : Enc Ei8 1 := ⟨fun _ => rfl, fun _ _ h => by simp [Ei8] at h; subst h; rfl⟩
theorem open_i8 {P : Program} {t : TypeId} (ht : P.underlying t = some (.int .i8)) : Opens P t Ei8 (fun _ n => -128 ≤ n ∧ n < 128) := by
  refine ⟨fun enc w fuel cs x h _ => ?_⟩
  obtain ⟨n, rfl, _, hw⟩ := DataW.trod_int ht h
  refine ⟨n, rfl, ?_⟩
  simp only [Lit.wf] at hw
  have : -128 ≤ n ∧ n ≤ 127 := by simpa [IntKind.min, IntKind.max, IntKind.signed, IntKind.bits] using hw
  omega
theorem open_struct6 {P : Program} {t : TypeId} {f0 f1 f2 f3 f4 f5 : Field} {α0 α1 α2 α3 α4 α5 γ : Type} {E0 : α0 → List Value} {E1 : α1 → List Value} {E2 : α2 → List Value} {E3 : α3 → List Value} {E4 : α4 → List Value} {E5 : α5 → List Value} {E : γ → List Value} {M0 : World → α0 → Prop} {M1 : World → α1 → Prop} {M2 : World → α2 → Prop} {M3 : World → α3 → Prop} {M4 : World → α4 → Prop} {M5 : World → α5 → Prop} {Mem : World → γ → Prop}
    (ht : P.underlying t = some (.struct #[f0, f1, f2, f3, f4, f5])) (h0 : f0.offset = 0) (h1 : f1.offset = P.cellsOf f0.type) (h2 : f2.offset = P.cellsOf f0.type + P.cellsOf f1.type) (h3 : f3.offset = P.cellsOf f0.type + P.cellsOf f1.type + P.cellsOf f2.type)
    (h4 : f4.offset = P.cellsOf f0.type + P.cellsOf f1.type + P.cellsOf f2.type + P.cellsOf f3.type) (h5 : f5.offset = P.cellsOf f0.type + P.cellsOf f1.type + P.cellsOf f2.type + P.cellsOf f3.type + P.cellsOf f4.type) (hc : P.cellsOf t = P.cellsOf f0.type + P.cellsOf f1.type + P.cellsOf f2.type + P.cellsOf f3.type + P.cellsOf f4.type + P.cellsOf f5.type)
    (o0 : Opens P f0.type E0 M0) (o1 : Opens P f1.type E1 M1) (o2 : Opens P f2.type E2 M2) (o3 : Opens P f3.type E3 M3) (o4 : Opens P f4.type E4 M4) (o5 : Opens P f5.type E5 M5) (mk : ∀ w a b c d e f, M0 w a → M1 w b → M2 w c → M3 w d → M4 w e → M5 w f → ∃ z, E z = E0 a ++ (E1 b ++ (E2 c ++ (E3 d ++ (E4 e ++ E5 f)))) ∧ Mem w z) : Opens P t E Mem := by
  refine ⟨fun enc w fuel cs x h hw => ?_⟩
  obtain ⟨hl, n, hf⟩ := trod_fields ht h hw
  obtain ⟨y0, e0, w0⟩ := hf 0 f0 rfl
  obtain ⟨y1, e1, w1⟩ := hf 1 f1 rfl
  obtain ⟨y2, e2, w2⟩ := hf 2 f2 rfl
  obtain ⟨y3, e3, w3⟩ := hf 3 f3 rfl
  obtain ⟨y4, e4, w4⟩ := hf 4 f4 rfl
  obtain ⟨y5, e5, w5⟩ := hf 5 f5 rfl
  obtain ⟨a, ha, ma⟩ := o0.out enc w _ _ _ e0 w0
  obtain ⟨b, hb, mb⟩ := o1.out enc w _ _ _ e1 w1
  obtain ⟨c, hcc, mc⟩ := o2.out enc w _ _ _ e2 w2
  obtain ⟨d, hd, md⟩ := o3.out enc w _ _ _ e3 w3
  obtain ⟨e, he, me⟩ := o4.out enc w _ _ _ e4 w4
  obtain ⟨f, hff, mf⟩ := o5.out enc w _ _ _ e5 w5
  obtain ⟨z, hz, hm⟩ := mk w a b c d e f ma mb mc md me mf
  refine ⟨z, ?_, hm⟩
  rw [hz, ← ha, ← hb, ← hcc, ← hd, ← he, ← hff, h0, h1, h2, h3, h4, h5, List.drop_zero, List.take_of_length_le (l := cs.drop (P.cellsOf f0.type + _ + _ + _ + _)) (by rw [List.length_drop]; omega), ← cells_split, ← cells_split, ← cells_split, ← cells_split, List.take_append_drop]
end Go.HL.Kl.Mc
namespace Go.HL
open Go
/-! lists of lists: for the bag that looks whether lists share memory -/
section
variable {α : Type} {E : α → List Value} {k : Nat} {T : TypeId}
inductive OwnL (E : α → List Value) (k : Nat) (T : TypeId) : List (Sl α) → List (List α) → Hp → Prop
  | nil : OwnL E k T [] [] []
  | cons {s : Sl α} {xs : List α} {sls : List (Sl α)} {xss : List (List α)} {S R : Hp} (h : OwnS E k T s.v xs S) (hs : OwnL E k T sls xss R) : OwnL E k T (s :: sls) (xs :: xss) (S ++ R)
theorem OwnL.at {sls : List (Sl α)} {xss : List (List α)} {S : Hp} (h : OwnL E k T sls xss S) : ∀ {n : Nat} {s : Sl α}, sls[n]? = some s →
    ∃ xs S1 Sn S2, xss[n]? = some xs ∧ S = S1 ++ (Sn ++ S2) ∧ OwnS E k T s.v xs Sn ∧ ∀ xs' Sn', OwnS E k T s.v xs' Sn' → OwnL E k T sls (xss.set n xs') (S1 ++ (Sn' ++ S2)) := by
  induction h with
  | nil => intro n s hs; simp at hs
  | @cons s xs sls xss S R h hs ih =>
    intro n s' hn
    cases n with
    | zero =>
      simp at hn; subst hn
      exact ⟨xs, [], S, R, rfl, rfl, h, fun xs' Sn' h' => by simpa using OwnL.cons h' hs⟩
    | succ n =>
      obtain ⟨xs', S1, Sn, S2, h1, rfl, h3, h4⟩ := ih (by simpa using hn)
      exact ⟨xs', S ++ S1, Sn, S2, by simpa using h1, by simp, h3, fun y Sy hy => by simpa using OwnL.cons h (h4 y Sy hy)⟩
def mkL (f : Nat → Nat → α) (n m : Nat) : List α := (List.range m).map (f n)
theorem mkL_len {f : Nat → Nat → α} {n m : Nat} : (mkL f n m).length = m := by simp [mkL]
theorem mkL_get {f : Nat → Nat → α} {n m i : Nat} (h : i < m) : (mkL f n m)[i]? = some (f n i) := by simp [mkL, List.getElem?_range h]
theorem mkL_succ {f : Nat → Nat → α} {n m : Nat} : mkL f n m ++ [f n m] = mkL f n (m + 1) := by simp [mkL, List.range_succ]
theorem mkL_fill {f : Nat → Nat → α} {n m i : Nat} {l : List α} (h : Tab.Fill (f n) m i l) (hi : m ≤ i) : l = mkL f n m := h.done hi
inductive OwnF (E : α → List Value) (k : Nat) (T : TypeId) (f : Nat → Nat → α) : Nat → List (Sl α) → Hp → Prop
  | nil {n : Nat} : OwnF E k T f n [] []
  | cons {n : Nat} {s : Sl α} {sls : List (Sl α)} {S R : Hp} (h : OwnS E k T s.v (mkL f n s.xs.length) S) (hs : OwnF E k T f (n + 1) sls R) : OwnF E k T f n (s :: sls) (S ++ R)
theorem OwnL.all {f : Nat → Nat → α} {sls : List (Sl α)} {xss : List (List α)} {S : Hp} (h : OwnL E k T sls xss S) : ∀ {n : Nat}, (∀ j s, sls[j]? = some s → xss[j]? = some (mkL f (n + j) s.xs.length)) → OwnF E k T f n sls S := by
  induction h with
  | nil => intro n _; exact .nil
  | @cons s xs sls xss S R h hs ih =>
    intro n hj
    have h0 := hj 0 s rfl
    simp at h0
    subst h0; refine .cons h (ih fun j s' hs' => ?_)
    have := hj (j + 1) s' (by simpa using hs')
    rw [show n + 1 + j = n + (j + 1) by omega]
    simpa using this
theorem OwnF.head {f : Nat → Nat → α} {sls : List (Sl α)} {S : Hp} {n : Nat} {s : Sl α} (h : OwnF E k T f n (sls.drop n) S) (hs : sls[n]? = some s) : ∃ S1 S2, S = S1 ++ S2 ∧ OwnS E k T s.v (mkL f n s.xs.length) S1 ∧ OwnF E k T f (n + 1) (sls.drop (n + 1)) S2 := by
  have hn : n < sls.length := by
    rcases Nat.lt_or_ge n sls.length with h' | h'
    · exact h'
    · rw [List.getElem?_eq_none h'] at hs; cases hs
  have e : sls.drop n = s :: sls.drop (n + 1) := by
    rw [List.drop_eq_getElem_cons hn]
    rw [List.getElem?_eq_getElem hn] at hs
    simp at hs; rw [hs]
  rw [e] at h
  cases h with
  | cons h1 h2 => exact ⟨_, _, rfl, h1, h2⟩
structure Done (E : α → List Value) (f : Nat → Nat → α) (sls ones mores : List (Sl α)) (G : Hp) (n : Nat) : Prop where
  out : ∀ j, j < n → ∃ s o m, sls[j]? = some s ∧ ones[j]? = some o ∧ mores[j]? = some m ∧ o.xs = mkL f j (s.xs.length + 1) ∧ m.xs = mkL f j (s.xs.length + 70) ∧ IsSl s.v s.xs.length ∧ IsSl o.v o.xs.length ∧ IsSl m.v m.xs.length ∧ RdS E s.v (mkL f j s.xs.length) G ∧ RdS E o.v o.xs G ∧ RdS E m.v m.xs G
theorem Done.zero {f : Nat → Nat → α} {sls ones mores : List (Sl α)} {G : Hp} : Done E f sls ones mores G 0 := ⟨fun _ h => by omega⟩
theorem Done.step {f : Nat → Nat → α} {sls ones mores : List (Sl α)} {G G' : Hp} {n : Nat} {s o m : Sl α} (h : Done E f sls ones mores G n) (h1 : ones.length = n) (h2 : mores.length = n) (hs : sls[n]? = some s)
    (ho : o.xs = mkL f n (s.xs.length + 1)) (hm : m.xs = mkL f n (s.xs.length + 70)) (i1 : IsSl s.v s.xs.length) (i2 : IsSl o.v o.xs.length) (i3 : IsSl m.v m.xs.length) (r1 : RdS E s.v (mkL f n s.xs.length) G') (r2 : RdS E o.v o.xs G') (r3 : RdS E m.v m.xs G') : Done E f sls (ones ++ [o]) (mores ++ [m]) (G' ++ G) (n + 1) := by
  refine ⟨fun j hj => ?_⟩
  by_cases e : j = n
  · subst e
    exact ⟨s, o, m, hs, by rw [List.getElem?_append_right (by omega)]; simp [h1], by rw [List.getElem?_append_right (by omega)]; simp [h2], ho, hm, i1, i2, i3, r1.mono HIn.appL, r2.mono HIn.appL, r3.mono HIn.appL⟩
  · obtain ⟨s', o', m', a1, a2, a3, a4, a5, b1, b2, b3, a6, a7, a8⟩ := h.out j (by omega)
    exact ⟨s', o', m', a1, by rw [List.getElem?_append_left (by omega)]; exact a2, by rw [List.getElem?_append_left (by omega)]; exact a3, a4, a5, b1, b2, b3, a6.mono HIn.appR, a7.mono HIn.appR, a8.mono HIn.appR⟩
theorem set_all {f : Nat → Nat → α} {sls : List (Sl α)} {xss : List (List α)} {n : Nat} {s : Sl α} {l xs : List α} (hA : ∀ j s, j < n → sls[j]? = some s → xss[j]? = some (mkL f j s.xs.length)) (hs : sls[n]? = some s) (hl : l = mkL f n s.xs.length) (hx : xss[n]? = some xs) :
    ∀ j s', j < n + 1 → sls[j]? = some s' → (xss.set n l)[j]? = some (mkL f j s'.xs.length) := by
  intro j s' hj hs'
  by_cases e : n = j
  · subst e
    rw [hs] at hs'; cases hs'
    rw [List.getElem?_set_self (List.getElem?_eq_some_iff.1 hx).1, hl]
  · rw [List.getElem?_set_ne e]; exact hA j s' (by omega) hs'
theorem Keep.more {v0 v : Value} {xs0 xs : List α} {S G G' : Hp} (h : Keep E k T v0 xs0 v xs S G) (hG : HIn G G') : Keep E k T v0 xs0 v xs S G' := ⟨h.own, h.old.imp (fun r => r.mono hG) fun r => r⟩
theorem sl_get {sls : List (Sl α)} {n : Nat} (h : n < sls.length) : ∃ s, sls[n]? = some s := ⟨_, List.getElem?_eq_getElem h⟩
theorem OwnS.lenv [Enc E k] {s : Sl α} {xs : List α} {S : Hp} (h : OwnS E k T s.v xs S) : xs.length = s.xs.length := by
  obtain ⟨a', c', e', _⟩ := h.sl.out
  simp [Sl.v] at e'; exact e'.2.1.symm
end
end Go.HL
namespace Go.HL.Kl.Mc
open Go Go.HL Go.HL.Kl
noncomputable def errC (re : List Nd) : Int := if shapedB re = false then 49 else if refsB re = true then 44 else 0
structure SetsTo (l : List Nd) (n j : Nat) : Prop where
  len : l.length = n
  rng : ∀ x ∈ l, -128 ≤ x.op ∧ x.op < 128
  get : ∀ t, t < j → ∃ y, l[t]? = some y ∧ y.op = 1 ∧ y.kids = 0
def cls9 (j : Nat) : Cl := mk4 9#64 0#64 (BitVec.ofNat 64 j) 0#64
attribute [irreducible] cls9
def spN (i : Nat) : Nd := ⟨0, 0, ((1048576 * 9 + i + 1 : Nat) : Int), -7, 0, 0⟩
theorem En_sp (i : Nat) : En (spN i) = [.int .i8 0, .int .u64 0, .int .u64 0, .int .u64 0, .int .u64 0, .int .i64 ((1048576 * 9 + i + 1 : Nat) : Int), .int .i64 (-7), .int .i64 0, .int .i64 0] := by
  show _ :: (Ec 0#256 ++ _) = _
  rw [Ec_zero]; rfl
theorem OwnL.one1 {α : Type} {E : α → List Value} {k T : Nat} {s : Sl α} {xs : List α} {S : Hp} (h : OwnS E k T s.v xs S) : OwnL E k T [s] [xs] S := by simpa using OwnL.cons h .nil
end Go.HL.Kl.Mc
namespace Go.HL.Kl.Mc
open Go Go.HL Go.HL.Kl AskE
structure May (re : List Nd) (w : List UInt8) (x : Nd) (ks : F) : Prop where
  sh : shapedB re = true
  rf : refsB re = false
  hs : Shp re x ks
def CapO (T : Nat) (w : List UInt8) (re : List Nd) (x : Nd) (ks : F) (p q : Nat) (v : Value) (S' : Hp) : Prop := ∃ a cc, v = .tuple #[.slice a (capsV w re x ks p q).length cc, .bool true] ∧ OwnS Esp 2 T (.slice a (capsV w re x ks p q).length cc) (capsV w re x ks p q) S'
def BestP (T : Nat) (re : List Nd) (w : List UInt8) (fr to : Int) (v : Value) (S' : Hp) : Prop :=
  (∃ x ks, ∃ p q : Nat, May re w x ks ∧ fr = p ∧ to = q ∧ p ≤ q ∧ q ≤ w.length ∧ der1 w x ks p q ∧ CapO T w re x ks p q v S') ∨
  ((¬ ∃ x ks, ∃ p q : Nat, May re w x ks ∧ fr = p ∧ to = q ∧ p ≤ q ∧ q ≤ w.length ∧ der1 w x ks p q) ∧ v = .tuple #[.slice none 0 0, .bool false] ∧ S' = [])
structure Lft (w : List UInt8) (x : Nd) (ks : F) (f p q : Nat) : Prop where
  ge : f ≤ p
  le : p ≤ q
  len : q ≤ w.length
  der : der1 w x ks p q
  left : ∀ p' q', f ≤ p' → p' < p → q' ≤ w.length → ¬ der1 w x ks p' q'
  long : ∀ q', q < q' → q' ≤ w.length → ¬ der1 w x ks p q'
def FindP (T : Nat) (re : List Nd) (w : List UInt8) (f : Int) (v : Value) (S' : Hp) : Prop :=
  (∃ x ks, ∃ g p q : Nat, May re w x ks ∧ f = g ∧ Lft w x ks g p q ∧ CapO T w re x ks p q v S') ∨
  ((¬ ∃ x ks, ∃ g p q : Nat, May re w x ks ∧ f = g ∧ g ≤ p ∧ q ≤ w.length ∧ der1 w x ks p q) ∧ v = .tuple #[.slice none 0 0, .bool false] ∧ S' = [])
end Go.HL.Kl.Mc
namespace Go.HL.Kl.Mc
open Go Go.HL Go.HL.Kl
structure RowsP (rs : List (Sl Bool)) (N : Nat) (D : Nat → Nat → Prop) : Prop where
  len : rs.length = N + 1
  get : ∀ p, p ≤ N → ∃ s, rs[p]? = some s ∧ IsS s.xs N (D p)
structure RowsTo (rs : List (Sl Bool)) (N k : Nat) (D : Nat → Nat → Prop) : Prop where
  len : rs.length = k
  get : ∀ p, p < k → ∃ s, rs[p]? = some s ∧ IsS s.xs N (D p)
structure RdRows (W : World) (v : Value) (rs : List (Sl Bool)) : Prop where
  out : Rd (Esl (α := Bool)) W v rs
  row : ∀ s ∈ rs, Rd Ebo W (.slice s.a s.xs.length s.c) s.xs
/-! a set, added place by place -/
def orTo (a b : List Bool) (i : Nat) : List Bool := (List.range a.length).map fun j => if j < i then orF a b j else bo0 a j
def fromTo (D : Nat → Nat → Prop) (P : Nat → Prop) (k q : Nat) : Prop := ∃ p, p < k ∧ P p ∧ D p q
structure AgP (N : Nat) (D : Nat → Nat → Prop) (p : Nat) (out : List Bool) (todo : List Nat) : Prop where
  len : out.length = N + 1
  me : out[p]? = some true
  sound : ∀ q : Nat, out[q]? = some true → ∃ k, pow D k p q
  td : ∀ t ∈ todo, out[t]? = some true
  closed : ∀ q : Nat, out[q]? = some true → q ∉ todo → ∀ r, r ≤ N → D q r → out[r]? = some true
structure AgK (N : Nat) (D : Nat → Nat → Prop) (p t k : Nat) (out : List Bool) (todo : List Nat) : Prop where
  len : out.length = N + 1
  me : out[p]? = some true
  tt : out[t]? = some true
  sound : ∀ q : Nat, out[q]? = some true → ∃ k, pow D k p q
  td : ∀ t ∈ todo, out[t]? = some true
  closed : ∀ q : Nat, out[q]? = some true → q ∉ todo → q ≠ t → ∀ r, r ≤ N → D q r → out[r]? = some true
  part : ∀ r, r < k → D t r → out[r]? = some true
def mvN (g : Nat) (x : Nd) : Nd := if 0 < x.n then { x with n := IntKind.i64.wrap (x.n + g) } else x
def F.mv (g : Nat) : F → F
  | .nil => .nil
  | .nd x ks r => .nd (mvN g x) (ks.mv g) (r.mv g)
def catN : Nd := ⟨4, 0, 0, 0, 0, 2⟩
def altN : Nd := ⟨5, 0, 0, 0, 0, 2⟩
def twoL (n : Nd) (a b : List Nd) (g : Nat) : List Nd := n :: (a ++ b.map (mvN g))
end Go.HL.Kl.Mc
namespace Go.HL.Kl.Mc
open Go Go.HL Go.HL.Kl
def mvTo (g : Nat) (b : List Nd) (j : Nat) : List Nd := (b.take j).map (mvN g) ++ b.drop j
def RowsC (N : Nat) (D : Nat → Nat → Prop) (v : Value) (S : Hp) : Prop := ∃ (a : Option Addr) (c : Nat) (rs : List (Sl Bool)), v = .slice a rs.length c ∧ RowsP rs N D ∧ ∀ W : World, (∀ b o, (b, o) ∈ S → W.heap[b]? = some o) → RdRows W (.slice a rs.length c) rs
def RdRS (v : Value) (rs : List (Sl Bool)) (S : Hp) : Prop := ∀ W : World, (∀ b o, (b, o) ∈ S → W.heap[b]? = some o) → RdRows W v rs
end Go.HL.Kl.Mc
