/- Part of the proofs over this seat: see the text that holds the theorem. Conditions: each theorem bears its own. -/
import Derived.Test.YtmompllplidphaaGreatDoorHTZ
import Derived.Test.YtmompllplidphaaGreatDoorGSW8Z
import Derived.Test.YtmompllplidphaaGreatDoorGSC2Z
import Derived.Test.YtmompllplidphaaGreatDoorGSN1Z
import Derived.Test.YtmompllplidphaaGreatDoorHlB
namespace Go.Proofs.YtmompllplidphaaGreatDoor
open Go Go.HL Go.Proofs Go.HL.Kl Go.HL.Kl.Mc Go.HL.Sts
theorem ownL_sl {α : Type} {E : α → List Value} {k T : Nat} [Enc E k] {sls : List (Sl α)} {xss : List (List α)} {S : Hp} (h : OwnL E k T sls xss S) (hx : xss = sls.map Sl.xs) {s : Sl α} (hs : s ∈ sls) : IsSl s.v s.xs.length := by
  obtain ⟨n, hn⟩ := List.getElem?_of_mem hs
  obtain ⟨xs, S1, Sn, S2, h1, rfl, h3, _⟩ := own_at h hn
  rw [hx, List.getElem?_map, hn] at h1
  obtain rfl := Option.some.inj h1
  exact h3.sl
theorem ownL_rdk {α : Type} {E : α → List Value} {k T : Nat} [Enc E k] {sls : List (Sl α)} {xss : List (List α)} {S H : Hp} {κ : Cx} (h : OwnL E k T sls xss S) (hx : xss = sls.map Sl.xs) (hin : HIn S H) {s : Sl α} (hs : s ∈ sls) : RdK E κ H s.v s.xs := by
  obtain ⟨n, hn⟩ := List.getElem?_of_mem hs
  obtain ⟨xs, S1, Sn, S2, h1, rfl, h3, _⟩ := own_at h hn
  rw [hx, List.getElem?_map, hn] at h1
  obtain rfl := Option.some.inj h1
  exact h3.rdk fun p hp => hin p (by simp [hp])
def EkI (a : Int) : Value := .int .i64 a
instance keI : KE Tryz.prog 3 EkI := KE.int
def DfO (d : Df) (v : Value) (S : Hp) : Prop := ∃ (na : Option Addr) (nc : Nat) (rows : List (Sl Int)) (ea : Option Addr) (ec : Nat) (aa : Option Addr) (ac : Nat) (Sn Sq Se Sa : Hp), v = .agg [.slice aa d.atoms.length ac, .slice na rows.length nc, .slice ea d.ends.length ec].toArray ∧ S = Sn ++ (Sq ++ (Se ++ Sa)) ∧ OwnS Esl 1 36 (.slice na rows.length nc) rows Sn ∧ OwnL Ei 1 3 rows d.next Sq ∧ d.next = rows.map Sl.xs ∧ OwnS Ebo 1 4 (.slice ea d.ends.length ec) d.ends Se ∧ OwnS Ec 4 39 (.slice aa d.atoms.length ac) d.atoms Sa
inductive MakeP (re : List Nd) (v : Value) (S' : Hp) : Prop
  | err {e : Int} (he : mkErr re e) (hv : v = .tuple #[.agg [.slice none 0 0, .slice none 0 0, .slice none 0 0].toArray, .int .i64 e])
  | ok {d : Df} {dv : Value} (hd : mkOk re d) (hv : v = .tuple #[dv, .int .i64 0]) (ho : DfO d dv S')
theorem ownL_snoc {rows : List (Sl Int)} {xss : List (List Int)} {S S' : Hp} {a : Option Addr} {n c : Nat} {xs : List Int} (h : OwnL Ei 1 3 rows xss S) (hn : xs.length = n) (h' : OwnS Ei 1 3 (.slice a n c) xs S') : OwnL Ei 1 3 (rows ++ [⟨a, c, xs⟩]) (xss ++ [xs]) (S ++ S') := by
  subst hn
  exact h.snoc (s := ⟨a, c, xs⟩) h'
theorem weight_fn (ra : Option Addr) (rc : Nat) (re : List Nd) (hre : ∀ x ∈ re, -128 ≤ x.op ∧ x.op < 128) (x : Nd) (ks : F) (hS : Mc.Shp re x ks) (hsb : shapedB re = true) : HL.Fn Tryz.prog 38 [.slice ra re.length rc] (fun W => Rd En W (.slice ra re.length rc) re) [] (fun v _ => v = .int .i64 ((F.nd x ks .nil).weight : Nat)) := by
  refine fn_of Tryz.func38 rfl rfl rfl fun w0 hw => ?_
  have hcw : cut (F.nd x ks .nil).weight = (F.nd x ks .nil).weight := by have := hS.weight; unfold cut; omega
  refine cR fun _ hK1 => ?_; refine oA (oZ hK1 (c_seq fun _ hK2 => ?_)); refine cR fun _ hK3 => ?_; refine oM ?_; refine o_callP (shaped_fn ra rc re hre) rfl rfl rfl (fun _ st => (RdK.old0 hw).out _ st) (fun v6 hv6 => ?_)
  rw [hsb] at hv6
  subst hv6; refine oS (s_not rfl) ?_; refine oZ hK3 ?_; refine cFZ hK2 (cR fun _ hK4 => ?_); refine oM ?_; refine o_callP (weigh_fn (ks.size + 1) x ks (Nat.lt_succ_self _) ra rc re 0 re.length hre hS.part) rfl rfl rfl (fun _ st => (RdK.old0 hw).out _ st) (fun v10 hv10 => ?_)
  rw [hcw] at hv10
  subst hv10; refine oM ?_; refine oS sE ?_; refine oS sE (oA (oA (oZ hK4 (cR fun _ hK5 => ?_)))); refine oM (oA (oZ hK5 (c_ret ?_))); refine ?_; exact xR rfl rfl (rfl)
set_option maxHeartbeats 4000000 in
theorem makeO_fn (ra : Option Addr) (rc : Nat) (re : List Nd) (hre : ∀ x ∈ re, -128 ≤ x.op ∧ x.op < 128) : HL.Fn Tryz.prog 9 [.slice ra re.length rc] (fun W => Rd En W (.slice ra re.length rc) re ∧ Tb [] W) [] (fun v S' => ∃ S2, HSub S' S2 ∧ MakeP re v S2) := by
  refine fn_of Tryz.func9 rfl rfl rfl fun w0 hw => ?_
  have hsl := hw.1.sl
  have hbl := hsl.le
  refine cR fun _ hK1 => ?_; refine o_alloc rfl rfl fun b2 => ?_; refine oA (oZ hK1 (c_seq fun _ hK2 => ?_)); refine c_block (cR fun _ hK3 => ?_); refine oM ?_; refine o_callP (shaped_fn ra rc re hre) rfl rfl rfl (fun _ st => (RdK.old0 hw.1).out _ st) (fun v23 hv23 => ?_); subst hv23
  cases hsh : shapedB re
  ·refine oS (s_not rfl) ?_; refine oA (oZ hK3 ?_); refine cT (cR fun _ hK4 => ?_); refine oS (s_build (cs := [_, _, _]) (vs := []) rfl rfl (.nil)) ?_; refine o_stW rfl rfl upA lnA lnA onA ?_; refine oA (oZ hK4 (c_ret ?_)); refine x_block_ret (x_then_ret (?_))
   exact x_ret rfl (.agg inferInstance inferInstance rfl (RdPK.cels (.own meA)) lnA (.tmp rfl (.nil))) (⟨[], by exact hzB, .err (.inl ⟨hsh, rfl⟩) rfl⟩)
  ·obtain ⟨_, x, ks, hS⟩ := shapedB_iff.1 hsh
   have hrl := hS.len
   refine oS (s_not rfl) ?_; refine oA (oZ hK3 ?_); refine cF (cR fun _ hK5 => ?_); refine oM ?_; refine o_callP (refs_fn ra rc re hre) rfl rfl rfl (fun _ st => (RdK.old0 hw.1).out _ st) (fun v28 hv28 => ?_); subst hv28
   cases hrf : refsB re
   ·refine oA (oZ hK5 ?_); refine cF (cR fun _ hK6 => ?_); refine oM ?_; refine o_callP (weight_fn ra rc re hre x ks hS hsh) rfl rfl rfl (fun _ st => (RdK.old0 hw.1).out _ st) (fun v32 hv32 => ?_); subst hv32
    by_cases hwt : (((F.nd x ks .nil).weight : Nat) : Int) > 20
    ·refine oS (step_cast (v' := .bool true) (s_gtr rfl rfl) (congrArg Value.bool (decide_eq_true hwt))) ?_; refine oA (oZ hK6 ?_); refine cT (cR fun _ hK7 => ?_); refine oS (s_build (cs := [_, _, _]) (vs := []) rfl rfl (.nil)) ?_; refine o_stW rfl rfl upA lnA lnA onA ?_; refine oA (oZ hK7 (c_ret ?_)); refine x_block_ret (x_then_ret (?_))
     exact x_ret rfl (.agg inferInstance inferInstance rfl (RdPK.cels (.own meA)) lnA (.tmp rfl (.nil))) (⟨[], by exact hzB, .err (.inr (.inr (.inl ⟨x, ks, hS, hrf, by omega, rfl⟩))) rfl⟩)
    ·have hcn : (Plc.sets ⟨[], []⟩).length + cnt1 x ks ≤ 20 := by have h1 := cnt_le (F.nd x ks .nil) hS.wf; have h2 : cntM (F.nd x ks .nil) = cnt1 x ks + cntM .nil := rfl; simp only [List.length_nil]; omega
     refine oS (step_cast (v' := .bool false) (s_gtr rfl rfl) (congrArg Value.bool (decide_eq_false hwt))) ?_; refine oA (oZ hK6 ?_); refine cF (c_skip (x_block (xZ hK2 (cR fun _ hK8 => ?_)))); refine oM ?_; refine oS (s_build (cs := [_, _, _]) (vs := [_]) rfl rfl (.cons rfl rfl rfl rfl rfl (.nil))) ?_; refine o_box rfl rfl rfl fun b37 => ?_; refine oA (oZ hK8 (cR fun _ hK9 => ?_)); refine oM ?_; refine o_call (part_fn x ks b37 ra rc re 0 re.length ⟨[], []⟩ [(b37, .cells [.slice ra re.length rc, .slice none 0 0, .slice none 0 0].toArray 86 (0, 0))] ⟨none, 0, none, 0, [], [], rfl, OwnS.nil, OwnS.nil⟩ hS.part hsh hre hcn rfl) rfl rfl rfl (pkA) (fun w st => ⟨(RdK.old0 hw.1).out w st, St.apart_M st (by exact hiB) hw.1 Apart.nil (by decide)⟩) (fun v39 S39 ⟨hv39, hP39⟩ => ?_)
     have hAd := part_adds hS.wf ⟨[], []⟩ rfl
     obtain ⟨root, hroot⟩ : ∃ r, r = (partM x ks ⟨[], []⟩).1 := ⟨_, rfl⟩
     obtain ⟨X, hX⟩ : ∃ X, X = (partM x ks ⟨[], []⟩).2 := ⟨_, rfl⟩
     rw [← hroot] at hv39
     rw [← hX] at hP39 hAd
     simp only [List.length_nil, Nat.zero_add] at hAd hcn
     subst hv39; refine o_alloc (l := Ep4 zeroP) (by rfl) rfl fun b5 => ?_; refine o_stW rfl rfl upA lnA lnA onA ?_; refine oZ hK9 (cR fun _ hK10 => ?_); refine oA (oZ hK10 (c_seq fun _ hK11 => ?_)); refine cR fun _ hK12 => ?_; refine oM ?_; refine oS sC (oM (oZ hK12 (c_block ?_))); refine c_loop5 (fun (k : Nat) (ss : List Kl.Cl) (aa : Option Addr) (ac : Nat) (Sa : Hp) => k ≤ re.length ∧ ss = setsOf (re.take k) ∧ OwnS Ec 4 39 (.slice aa ss.length ac) ss Sa) (fun (k : Nat) (ss : List Kl.Cl) (aa : Option Addr) (ac : Nat) (Sa : Hp) => [(6, .slice aa ss.length ac), (42, .int .i64 k)]) [(2, _), (3, _), (4, _), (5, _), (40, _), (41, _)] (fun (k : Nat) (ss : List Kl.Cl) (aa : Option Addr) (ac : Nat) (Sa : Hp) => (b2, .cells [.slice none 0 0, .slice none 0 0, .slice none 0 0].toArray 30 (0, 0)) :: (b5, .cells (Ep4 root).toArray 93 (0, 0)) :: (S39 ++ Sa)) (fun (k : Nat) (ss : List Kl.Cl) (aa : Option Addr) (ac : Nat) (Sa : Hp) => re.length - k) 0 [] none 0 [] ⟨Nat.zero_le _, rfl, OwnS.nil⟩ sbA sbA hzB ?_
     rintro k ss aa ac Sa ⟨hk, hss, hA⟩
     refine cR fun _ hK13 => ?_; refine oS (s_lss rfl rfl) ?_; refine oZ hK13 (c_seq fun _ hK14 => ?_); refine c_if rfl (fun hlk => ?_) (fun hlk => ?_)
     ·obtain ⟨n, hnk⟩ : ∃ n, re[k]? = some n := gE
      have hsk := setsOf_len re k
      rw [← hss] at hsk
      refine c_skip (xZ hK14 (c_seq fun _ hK15 => ?_)); refine c_block (cR fun _ hK16 => ?_); refine oS (s_idx rfl rfl hsl (by omega)) ?_; refine oS (s_ldB rfl ((RdK.old0 hw.1).lds k hnk (by simp only [Int.toNat_natCast])) lnA) ?_; refine o_alloc (l := En zN) (by rw [En_zero]; rfl) rfl fun b8 => ?_; refine o_stW rfl rfl upA lnA lnA onA ?_; refine oZ hK16 (cR fun _ hK17 => ?_); refine oS sF ?_; refine oS sL ?_
      by_cases h1 : n.op = 1
      ·refine oS (step_cast (v' := .bool true) (s_eql rfl rfl) (congrArg Value.bool (decide_eq_true h1))) ?_; refine oZ hK17 ?_; refine cT (c_region (oM ?_)); refine oS sF ?_; refine oS (s_ldB rfl (RdPK.cels (RdPK.own' meA En_Ec)) lnA) ?_; refine o_bs (E := Ec) (xs := [n.set]) (vs := [_]) rfl rfl rfl rfl rfl (by decide) (by decide) fun b52 S52 hS52 => ?_; refine o_app hA (hS52.rdk hiA) rfl rfl rfl rfl (by simp only [List.length_append, List.length_singleton]; omega) (by simp only [List.length_append, List.length_singleton]; omega) rfl pkA fun a53 c53 S53 hS53 => ?_; refine oA (o_nil (x_block (xZ hK15 (c_region ?_)))); refine oS sD (oM (o_nil ?_)); exact xI (k + 1, ss ++ [n.set], a53, c53, S53) ⟨by omega, by rw [hss, setsOf_yes hnk h1], hS53⟩
      ·refine oS (step_cast (v' := .bool false) (s_eql rfl rfl) (congrArg Value.bool (decide_eq_false h1))) ?_; refine oZ hK17 ?_; refine cF (c_skip (x_block (xZ hK15 (c_region ?_)))); refine oS sD (oM (o_nil ?_)); exact xI (k + 1, ss, aa, ac, Sa) ⟨by omega, by rw [hss, setsOf_no hnk h1], hA⟩
     ·obtain rfl : k = re.length := by omega
      rw [List.take_length] at hss
      refine c_exit ?_; refine x_then_exit (x_then_exit (x_block_exit (xZ hK11 (cR fun _ hK18 => ?_)))); refine oM ?_; refine o_call (atoms_fn aa ac ss) rfl rfl rfl (by exact .nil) (fun w st => ⟨(hA.rdk hiA).out w st, tb_of hw.2 st HSub.nil⟩) (fun v56 S56 ⟨a56, n56, hv56, hS56⟩ => ?_)
      have hal := atoms_len2 ss
      rw [hss] at hal hv56 hS56
      obtain ⟨at_, hat⟩ : ∃ l, l = atoms (setsOf re) := ⟨_, rfl⟩
      rw [← hat] at hal hv56 hS56
      subst hv56; refine oS (s_build (cs := [_, _, _]) (vs := [_]) rfl rfl (.cons rfl rfl rfl rfl rfl (.nil))) ?_; refine o_alloc rfl rfl fun b9 => ?_; refine o_stW rfl rfl upA lnA lnA onA ?_; refine oZ hK18 (cR fun _ hK19 => ?_); refine oM ?_; refine oS (s_ldB rfl (RdPK.cels (.own meA)) lnA) ?_; refine oS sF ?_; refine oS sL ?_; refine o_call (wide_fn b37 ra rc re.length X S39 hP39 root a56 n56 at_ hAd.2 (by omega) hal.2) rfl rfl rfl (pkA) (fun w st => ⟨(hS56.rdk hiA).out w st, St.apart st pkA hS56 hiA⟩) (fun v62 S62 ⟨na, nc, wrows, ea, ec, Sn, Se, Sq, hv62, hS62, hn, he, hq, hnx, hnd, hnl, hel⟩ => ?_)
      have hWB := wideM_bnd X root at_
      obtain ⟨W, hWd⟩ : ∃ W, W = wideM X root at_ := ⟨_, rfl⟩
      rw [← hWd] at hv62 he hq hnx hnd hnl hel hWB
      obtain ⟨K, hKd⟩ : ∃ K, K = at_.length := ⟨_, rfl⟩
      rw [← hKd] at hWB
      have hsl62 := sets_len hnd
      have hwl : wrows.length = W.next.length := by rw [hnx, List.length_map]
      have hwK : ∀ s ∈ wrows, s.xs.length = K := fun s hs => hWB.len s.xs (by rw [hnx]; exact List.mem_map.2 ⟨s, hs, rfl⟩)
      have hwB : ∀ s ∈ wrows, ∀ v ∈ s.xs, v < wrows.length := fun s hs v hv => by have := hWB.bnd s.xs (by rw [hnx]; exact List.mem_map.2 ⟨s, hs, rfl⟩) v hv; omega
      subst hv62; subst hS62
      refine o_alloc rfl rfl fun b10 => ?_; refine o_stW rfl rfl upA lnA lnA onA ?_; refine oZ hK19 (c_seq fun _ hK20 => ?_); refine c_drawE ((b10, .cells [.slice na wrows.length nc, .slice ea W.ends.length ec].toArray 96 (0, 0)) :: (Sn ++ (Se ++ (Sq ++ S56)))) (fun i => false) ?_; refine eK 0 rfl (s_ldB rfl (RdPK.cels (.own meA)) lnA) ?_; refine eK 2 rfl (s_ldB rfl (RdPK.cels (.own meA)) lnA) ?_; refine eO 1 rfl ?_; refine o_call (parts_fn na nc wrows ea ec W.ends K (by omega) (by omega) (by omega) (by omega) (by omega) hwK hwB) rfl rfl rfl (by exact .nil) (fun w st => ⟨(hn.rdk hiA).out w st, (he.rdk hiA).out w st, fun s hs => (ownL_rdk hq hnx hiA hs).out w st⟩) (fun v64 Spm ⟨a64, c64, hv64, hSpm⟩ => ?_); subst hv64
      have hpl := partsM_len (next := W.next) (ends := W.ends) (K := K) (by omega)
      rw [← hnx] at hSpm
      obtain ⟨pm, hpm⟩ : ∃ p, p = partsM W.next W.ends K := ⟨_, rfl⟩
      rw [← hpm] at hSpm hpl
      have hs64 := hSpm.sl
      rw [show pm.length = W.ends.length by omega] at hs64
      refine oX (eO 3 rfl ?_); refine o_call (live_fn na nc wrows ea ec W.ends K (by omega) (by omega) (by omega) (by omega) (by omega) hwK hwB) rfl rfl rfl (by exact .nil) (fun w st => ⟨(hn.rdk hiA).out w st, (he.rdk hiA).out w st, fun s hs => (ownL_rdk hq hnx hiA hs).out w st⟩) (fun v66 Slv ⟨a66, c66, lv, hv66, hSlv, hLv⟩ => ?_); subst hv66
      rw [← hnx] at hLv
      have hll := hLv.1
      have hs66 := hSlv.sl
      rw [show lv.length = W.ends.length by omega] at hs66
      refine oX (eO 4 rfl (oA (oX (eO 5 rfl (oA (oX (eZ hK20 (cR fun _ hK21 => ?_)))))))); refine o_mmap2 (Ek := EkI) rfl fun b67 => ?_; refine oM ?_; refine oS (s_idx rfl rfl hs64 (by omega)) ?_; refine oS (s_ld rfl ((hSpm.rdk hiA).ld 0 0 (pt_get (by omega)) rfl (by decide) (by omega))) ?_; refine o_ins2 (Ek := EkI) (k := ((pt pm 0 : Nat) : Int)) rfl rfl rfl pkA fun es0 c0 hset0 hel0 => ?_; refine oM (oA (oZ hK21 (cR fun _ hK22 => ?_))); refine o_bs (E := Eix) (xs := [0]) (vs := [_]) rfl rfl rfl rfl rfl (by decide) (by decide) fun b72 S72 hS72 => ?_; refine oA (oZ hK22 (c_seq fun _ hK23 => ?_)); refine cR fun _ hK24 => ?_; refine oA (oZ hK24 (c_block ?_))
      -- not carried: 3
      refine c_loop15 (fun (i : Nat) (m : Lm) (rows : List (Sl Int)) (na2 : Option Addr) (nc2 : Nat) (ea2 : Option Addr) (ec2 : Nat) (ma : Option Addr) (mc : Nat) (es : List (Mx Int)) (c : Nat) (Sm : Hp) (Sr : Hp) (Sq2 : Hp) (Se2 : Hp) => lmRun W pm lv (258 - i) i m = lmM W pm lv ∧ i ≤ m.met.length ∧ i ≤ 256 ∧ m.met.length ≤ 512 ∧ (∀ x ∈ m.met, x < W.next.length) ∧ (∀ j : Nat, getM es (j : Int) = numM (m.met.map (pt pm)) j) ∧ OwnS Eix 1 3 (.slice ma m.met.length mc) m.met Sm ∧ OwnS Esl 1 36 (.slice na2 rows.length nc2) rows Sr ∧ OwnL Ei 1 3 rows m.next Sq2 ∧ m.next = rows.map Sl.xs ∧ OwnS Ebo 1 4 (.slice ea2 m.ends.length ec2) m.ends Se2 ∧ m.next.length = i ∧ m.ends.length = i) (fun (i : Nat) (m : Lm) (rows : List (Sl Int)) (na2 : Option Addr) (nc2 : Nat) (ea2 : Option Addr) (ec2 : Nat) (ma : Option Addr) (mc : Nat) (es : List (Mx Int)) (c : Nat) (Sm : Hp) (Sr : Hp) (Sq2 : Hp) (Se2 : Hp) => [(14, .slice ma m.met.length mc), (15, .int .i64 i)]) [(2, _), (9, _), (10, _), (11, _), (12, _), (13, _)] (fun (i : Nat) (m : Lm) (rows : List (Sl Int)) (na2 : Option Addr) (nc2 : Nat) (ea2 : Option Addr) (ec2 : Nat) (ma : Option Addr) (mc : Nat) (es : List (Mx Int)) (c : Nat) (Sm : Hp) (Sr : Hp) (Sq2 : Hp) (Se2 : Hp) => (b9, .cells [.slice a56 at_.length n56, .slice na2 rows.length nc2, .slice ea2 m.ends.length ec2].toArray 30 (0, 0)) :: (b67, mxO EkI es c) :: (b10, .cells [.slice na wrows.length nc, .slice ea W.ends.length ec].toArray 96 (0, 0)) :: (b2, .cells [.slice none 0 0, .slice none 0 0, .slice none 0 0].toArray 30 (0, 0)) :: (Sm ++ (Sr ++ (Sq2 ++ (Se2 ++ (Slv ++ (Spm ++ (Sn ++ (Se ++ (Sq ++ S56)))))))))) (fun (i : Nat) (m : Lm) (rows : List (Sl Int)) (na2 : Option Addr) (nc2 : Nat) (ea2 : Option Addr) (ec2 : Nat) (ma : Option Addr) (mc : Nat) (es : List (Mx Int)) (c : Nat) (Sm : Hp) (Sr : Hp) (Sq2 : Hp) (Se2 : Hp) => 257 - i) 0 ⟨[0], [], []⟩ [] none 0 none 0 (some ⟨b72, 0, none⟩) 1 es0 c0 S72 [] [] [] ⟨rfl, by simp, by omega, by simp, by intro x hx; rw [List.mem_singleton.1 hx]; omega, fun j => by rw [hset0]; exact numM_one j, hS72, OwnS.nil, .nil, rfl, OwnS.nil, rfl, rfl⟩ sbA sbA (by simp only [List.nil_append]; exact hzB) ?_
      rintro i m rows na2 nc2 ea2 ec2 ma mc es c Sm Sr Sq2 Se2 ⟨hrun, him, hi6, hm5, hml, hN, hMo, hR, hRq, hRx, hEn, hnli, heli⟩
      have hsm := hMo.sl
      have hrli : rows.length = i := by rw [← hnli, hRx, List.length_map]
      refine c_seq fun _ hK25 => ?_; refine cR fun _ hK26 => ?_; refine oM (oM ?_); refine oS sC ?_
      by_cases hlt : i < m.met.length
      ·obtain ⟨q, hqi⟩ : ∃ q, m.met[i]? = some q := gE
       have hqn := hml q (List.mem_of_getElem? hqi)
       obtain ⟨wr, hwr⟩ : ∃ r, wrows[q]? = some r := gE
       have hwm := List.mem_of_getElem? hwr
       have hwk := hwK wr hwm
       have hwsl := ownL_sl hq hnx hwm
       have hrow : W.next[q]? = some wr.xs := by rw [hnx, List.getElem?_map, hwr]; rfl
       obtain ⟨e, hqe⟩ : ∃ e, W.ends[q]? = some e := gE
       refine oS (step_cast (v' := .bool true) (s_lss rfl rfl) (congrArg Value.bool (decide_eq_true (by omega)))) ?_; refine oZ hK26 ?_; refine cTZ hK25 (c_seq fun _ hK27 => ?_); refine c_block (c_seq fun _ hK28 => ?_); refine cR fun _ hK29 => ?_; refine oM ?_; refine oS sC ?_
       by_cases hmany : 256 < m.met.length
       ·refine oS (step_cast (v' := .bool true) (s_gtr rfl rfl) (congrArg Value.bool (decide_eq_true (by omega)))) ?_; refine oZ hK29 ?_; refine cT (cR fun _ hK30 => ?_); refine oS (s_build (cs := [_, _, _]) (vs := []) rfl rfl (.nil)) ?_; refine o_stW rfl rfl upA lnA lnA onA ?_; refine oA (oZ hK30 (c_ret ?_)); refine x_then_ret (x_block_ret (x_then_ret (x_then_ret (x_block_ret (x_then_ret (?_))))))
        exact x_ret rfl (.agg inferInstance inferInstance rfl (RdPK.cels (.own meA)) lnA (.tmp rfl (.nil))) (⟨[], by exact hzB, .err (.inr (.inr (.inr ⟨x, ks, lv, hS, hrf, by omega, by rw [wdM, ← hat, ← hX, ← hroot, ← hWd]; exact hLv, by rw [lmOf, wdM, ← hat, ← hX, ← hroot, ← hWd, ← hKd, ← hpm, ← hrun]; exact lmRun_many (by omega) hlt hmany, rfl⟩))) rfl⟩)
       ·refine oS (step_cast (v' := .bool false) (s_gtr rfl rfl) (congrArg Value.bool (decide_eq_false (by omega)))) ?_; refine oZ hK29 ?_; refine cFZ hK28 (cR fun _ hK31 => ?_); refine oS sF ?_; refine oS sL ?_; refine oS (step_cast (v' := .int .i64 (K : Nat)) (s_len rfl) (by rw [hKd])) ?_; refine o_make (E := Ei) (zx := 0) (n := K) rfl rfl rfl (by omega) (by omega) rfl fun b86 S86 hS86 => ?_
        rw [← filZ_nil] at hS86
        have hs86 := hS86.sl
        rw [filZ_len (Nat.zero_le _)] at hs86
        refine oA (oZ hK31 (c_seq fun _ hK32 => ?_)); refine c_seq fun _ hK33 => ?_; refine c_drawE ((b10, .cells [.slice na wrows.length nc, .slice ea W.ends.length ec].toArray 96 (0, 0)) :: (Sm ++ Sn)) (fun i => false) ?_; refine eP 0 rfl sF ?_; refine eK 1 rfl sL ?_; refine eP 2 rfl sM ?_; refine eP 3 rfl sM ?_; refine eP 4 rfl (s_idx rfl rfl hsm (by omega)) ?_; refine eK 5 rfl (s_ld rfl ((hMo.rdk hiA).ld i 0 hqi rfl (by decide) (by omega))) ?_; refine eP 6 rfl (s_idx rfl rfl hn.sl (by omega)) ?_; refine eK 7 rfl (s_ld rfl ((hn.rdk hiA).ld q 0 hwr rfl (by decide) (by omega))) ?_; refine eP 8 rfl sC ?_; refine eP 9 rfl sM (eZ hK33 (c_block ?_)); refine c_loop8 (fun (k : Nat) (met : List Nat) (es : List (Mx Int)) (c : Nat) (Sl0 : Hp) (ma : Option Addr) (mc : Nat) (Sm : Hp) => k ≤ K ∧ OwnS Ei 1 3 (.slice (some ⟨b86, 0, none⟩) K K) (filZ 0 (lrowT pm lv (wr.xs.take k) m.met).1 K) Sl0 ∧ met = (lrowT pm lv (wr.xs.take k) m.met).2 ∧ (∀ x ∈ met, x < W.next.length) ∧ (∀ j : Nat, getM es (j : Int) = numM (met.map (pt pm)) j) ∧ OwnS Eix 1 3 (.slice ma met.length mc) met Sm) (fun (k : Nat) (met : List Nat) (es : List (Mx Int)) (c : Nat) (Sl0 : Hp) (ma : Option Addr) (mc : Nat) (Sm : Hp) => [(14, .slice ma met.length mc), (96, .int .i64 k)]) [(2, _), (9, _), (10, _), (11, _), (12, _), (13, _), (15, _), (16, _), (73, _), (74, _), (75, _), (76, _), (79, _), (80, _), (81, _), (83, _), (84, _), (85, _), (86, _), (87, _), (88, _), (89, _), (90, _), (91, _), (92, _), (93, _), (94, _), (95, _)] (fun (k : Nat) (met : List Nat) (es : List (Mx Int)) (c : Nat) (Sl0 : Hp) (ma : Option Addr) (mc : Nat) (Sm : Hp) => (b9, .cells [.slice a56 at_.length n56, .slice na2 rows.length nc2, .slice ea2 m.ends.length ec2].toArray 30 (0, 0)) :: (b67, mxO EkI es c) :: (b10, .cells [.slice na wrows.length nc, .slice ea W.ends.length ec].toArray 96 (0, 0)) :: (b2, .cells [.slice none 0 0, .slice none 0 0, .slice none 0 0].toArray 30 (0, 0)) :: (Sl0 ++ (Sm ++ (Sr ++ (Sq2 ++ (Se2 ++ (Slv ++ (Spm ++ (Sn ++ (Se ++ (Sq ++ S56))))))))))) (fun (k : Nat) (met : List Nat) (es : List (Mx Int)) (c : Nat) (Sl0 : Hp) (ma : Option Addr) (mc : Nat) (Sm : Hp) => K - k) 0 m.met es c S86 ma mc Sm ⟨Nat.zero_le _, hS86, rfl, hml, hN, hMo⟩ sbA sbA hzB ?_
        rintro k met es c Sl0 ma mc Sm ⟨hk, hL, hmet, hml, hN, hMo⟩
        have hsl0 := hL.sl
        have hlrk := lrowK_len (part := pm) (lv := lv) (r := wr.xs) (met := m.met) (k := k) (by omega)
        rw [filZ_len (by omega)] at hsl0
        have hmo := lrowT_mono pm lv (wr.xs.take k) m.met
        rw [← hmet, take_len (by omega)] at hmo
        refine cR fun _ hK34 => ?_; refine oS (s_lss rfl rfl) ?_; refine oZ hK34 (c_seq fun _ hK35 => ?_); refine c_if rfl (fun hlr => ?_) (fun hlr => ?_)
        ·obtain ⟨to, hto⟩ : ∃ t, wr.xs[k]? = some t := gE
         have htl := hwB wr hwm to (List.mem_of_getElem? hto)
         have hptt := pt_get (pm := pm) (m := to) (by omega)
         refine c_skip (xZ hK35 (c_seq fun _ hK36 => ?_)); refine c_block (cR fun _ hK37 => ?_); refine oM ?_; refine oS (s_idx rfl rfl hwsl (by omega)) ?_; refine oS (s_ld rfl ((ownL_rdk hq hnx hiA hwm).ld k 0 hto rfl (by decide) (by simp only [Sl.v]; omega))) ?_; refine oA (oA (oZ hK37 (cR fun _ hK38 => ?_))); refine oM (oM (oM ?_)); refine oS (s_idx rfl rfl hs64 (by omega)) ?_; refine oS (s_ld rfl ((hSpm.rdk hiA).ld to 0 hptt rfl (by decide) (by omega))) ?_
         by_cases hm : pt pm to ∈ met.map (pt pm)
         ·refine oS (step_cast (v' := .tuple #[.int .i64 ((idx (met.map (pt pm)) (pt pm to) : Nat) : Int), .bool true]) (s_look2k (Ek := EkI) (k := ((pt pm to : Nat) : Int)) rfl rfl meA) (by rw [hN, numM_in hm]; rfl)) ?_; refine oM ?_; refine oS sE ?_; refine oS sE (oA (oA (oZ hK38 (c_seq fun _ hK39 => ?_)))); refine c_block (cR fun _ hK40 => ?_); refine oM (oM ?_); refine oS (s_idx rfl rfl hs66 (by omega)) ?_
          by_cases hb : lv[to]? = some true
          ·refine oS (step_cast (v' := .bool true) (s_ld rfl ((hSlv.rdk hiA).ld to 0 hb rfl (by decide) (by omega))) rfl) ?_; refine oS (s_not rfl) ?_; refine oA (oZ hK40 ?_); refine cF (cR fun _ hK41 => ?_); refine oM ?_; refine oS (s_not rfl) ?_; refine oA (oZ hK41 ?_); refine cF (c_skip (x_block (xZ hK39 (c_region (oM (oM (oM ?_))))))); refine oS (s_idx rfl rfl hsl0 (by omega)) ?_; refine o_stS1 k _ hL pkA rfl rfl rfl (by rw [filZ_len (by omega)]; omega) (by first | rfl | omega | (rw [Int.toNat_natCast, Nat.mul_one])) fun S134 hS134 => ?_
           rw [filZ_set hlrk (by omega)] at hS134
           refine o_nil (x_block (xZ hK36 (c_region ?_))); refine oS sD (oM (o_nil ?_)); exact xI (k + 1, met, es, c, S134, ma, mc, Sm) ⟨by omega, by rw [lrowK_succ hto, ← hmet, toT_live hb]; exact hS134, by rw [lrowK_succ hto, ← hmet, toT_live hb, if_pos hm], hml, hN, hMo⟩
          ·refine oS (step_cast (v' := .bool false) (s_ld rfl ((hSlv.rdk hiA).ld to 0 (lv_no (by omega) hb) rfl (by decide) (by omega))) rfl) ?_; refine oS (s_not rfl) ?_; refine oA (oZ hK40 ?_); refine cT (c_region (oA (o_nil (x_block (xZ hK39 (c_region (oM (oM (oM ?_))))))))); refine oS (s_idx rfl rfl hsl0 (by omega)) ?_; refine o_stS1 k _ hL pkA rfl rfl rfl (by rw [filZ_len (by omega)]; omega) (by first | rfl | omega | (rw [Int.toNat_natCast, Nat.mul_one])) fun S134 hS134 => ?_
           rw [filZ_set hlrk (by omega)] at hS134
           refine o_nil (x_block (xZ hK36 (c_region ?_))); refine oS sD (oM (o_nil ?_)); exact xI (k + 1, met, es, c, S134, ma, mc, Sm) ⟨by omega, by rw [lrowK_succ hto, ← hmet, toT_dead (lv_no (by omega) hb)]; exact hS134, by rw [lrowK_succ hto, ← hmet, toT_dead (lv_no (by omega) hb)], hml, hN, hMo⟩
         ·refine oS (step_cast (v' := .tuple #[.int .i64 0, .bool false]) (s_look2k (Ek := EkI) (k := ((pt pm to : Nat) : Int)) rfl rfl meA) (by rw [hN, numM_out hm]; rfl)) ?_; refine oM ?_; refine oS sE ?_; refine oS sE (oA (oA (oZ hK38 (c_seq fun _ hK42 => ?_)))); refine c_block (cR fun _ hK43 => ?_); refine oM (oM ?_); refine oS (s_idx rfl rfl hs66 (by omega)) ?_
          by_cases hb : lv[to]? = some true
          ·refine oS (step_cast (v' := .bool true) (s_ld rfl ((hSlv.rdk hiA).ld to 0 hb rfl (by decide) (by omega))) rfl) ?_; refine oS (s_not rfl) ?_; refine oA (oZ hK43 ?_); refine cF (cR fun _ hK44 => ?_); refine oM ?_; refine oS (s_not rfl) ?_; refine oA (oZ hK44 ?_); refine cT (cR fun _ hK45 => ?_); refine oM ?_; refine oS sC (oA (oZ hK45 (cR fun _ hK46 => ?_))); refine oM (oM (oM ?_)); refine oS (s_idx rfl rfl hs64 (by omega)) ?_; refine oS (s_ld rfl ((hSpm.rdk hiA).ld to 0 hptt rfl (by decide) (by omega))) ?_; refine oM ?_; refine o_mset2 (Ek := EkI) (k := ((pt pm to : Nat) : Int)) rfl rfl rfl pkA fun es' c' hset hel' => ?_; refine oZ hK46 (c_region (oM (oM ?_))); refine o_bs (E := Eix) (xs := [to]) (vs := [_]) rfl rfl rfl rfl rfl (by decide) (by decide) fun b129 S129 hS129 => ?_; refine o_app hMo (hS129.rdk hiA) rfl rfl rfl rfl (by simp only [List.length_append, List.length_singleton]; omega) (by simp only [List.length_append, List.length_singleton]; omega) rfl pkA fun a130 c130 S130 hS130 => ?_; refine oA (o_nil (x_block (xZ hK42 (c_region (oM (oM ?_))))))
           refine oM ?_; refine oS (s_idx rfl rfl hsl0 (by omega)) ?_; refine o_stS1 k _ hL pkA rfl rfl rfl (by rw [filZ_len (by omega)]; omega) (by first | rfl | omega | (rw [Int.toNat_natCast, Nat.mul_one])) fun S134 hS134 => ?_
           rw [filZ_set hlrk (by omega)] at hS134
           refine o_nil (x_block (xZ hK36 (c_region ?_))); refine oS sD (oM (o_nil ?_)); exact xI (k + 1, met ++ [to], es', c', S134, a130, c130, S130) ⟨by omega, by rw [lrowK_succ hto, ← hmet, toT_live hb, idx_out hm, List.length_map]; exact hS134, by rw [lrowK_succ hto, ← hmet, toT_live hb, if_neg hm], fun y hy => by rcases List.mem_append.1 hy with hy | hy; (· exact hml y hy); (· rw [List.mem_singleton.1 hy]; omega), by rw [List.map_append]; exact numI_add hm hN (fun j => by rw [hset j, List.length_map]), hS130⟩
          ·refine oS (step_cast (v' := .bool false) (s_ld rfl ((hSlv.rdk hiA).ld to 0 (lv_no (by omega) hb) rfl (by decide) (by omega))) rfl) ?_; refine oS (s_not rfl) ?_; refine oA (oZ hK43 ?_); refine cT (c_region (oA (o_nil (x_block (xZ hK42 (c_region (oM (oM (oM ?_))))))))); refine oS (s_idx rfl rfl hsl0 (by omega)) ?_; refine o_stS1 k _ hL pkA rfl rfl rfl (by rw [filZ_len (by omega)]; omega) (by first | rfl | omega | (rw [Int.toNat_natCast, Nat.mul_one])) fun S134 hS134 => ?_
           rw [filZ_set hlrk (by omega)] at hS134
           refine o_nil (x_block (xZ hK36 (c_region ?_))); refine oS sD (oM (o_nil ?_)); exact xI (k + 1, met, es, c, S134, ma, mc, Sm) ⟨by omega, by rw [lrowK_succ hto, ← hmet, toT_dead (lv_no (by omega) hb)]; exact hS134, by rw [lrowK_succ hto, ← hmet, toT_dead (lv_no (by omega) hb)], hml, hN, hMo⟩
        ·obtain rfl : K = k := by omega
         have hsm2 := hMo.sl
         have hqi2 : met[i]? = some q := by obtain ⟨t, ht⟩ := lrowT_pre pm lv (wr.xs.take K) m.met; rw [hmet, ht, List.getElem?_append_left (by omega)]; exact hqi
         rw [filZ_full (by omega)] at hL
         have hlrT : lrowT pm lv wr.xs m.met = ((lrowT pm lv (wr.xs.take K) m.met).1, (lrowT pm lv (wr.xs.take K) m.met).2) := by rw [List.take_of_length_le (by omega)]
         refine c_exit ?_; refine x_then_exit (x_then_exit (x_block_exit (xZ hK32 (cR fun _ hK47 => ?_)))); refine oS sF ?_; refine oS sL ?_; refine oS (step_cast (v' := .slice (some ⟨b86, 0, none⟩) (lrowT pm lv (wr.xs.take K) m.met).1.length K) (s_move rfl) (by rw [lrowK_len (by omega)])) ?_; refine o_bs (E := Esl) (xs := [(⟨some ⟨b86, 0, none⟩, K, (lrowT pm lv (wr.xs.take K) m.met).1⟩ : Sl Int)]) (vs := [_]) rfl rfl rfl rfl rfl (by decide) (by decide) fun b139 S139 hS139 => ?_; refine o_app hR (hS139.rdk hiA) rfl rfl rfl rfl (by simp only [List.length_append, List.length_singleton]; omega) (by simp only [List.length_append, List.length_singleton]; omega) rfl pkA fun a140 c140 S140 hS140 => ?_; refine oS sF ?_; refine o_store rfl rfl rfl upA ltA rfl ?_; refine oZ hK47 ?_; refine c_drawE ((b9, .cells [.slice a56 at_.length n56, .slice a140 (rows ++ [(⟨some ⟨b86, 0, none⟩, K, (lrowT pm lv (wr.xs.take K) m.met).1⟩ : Sl Int)]).length c140, .slice ea2 m.ends.length ec2].toArray 30 (0, 0)) :: (b10, .cells [.slice na wrows.length nc, .slice ea W.ends.length ec].toArray 96 (0, 0)) :: (Sm ++ Se)) (fun i => Nat.beq i 13) ?_; refine eP 0 rfl sF ?_; refine eK 1 rfl sL ?_; refine eP 2 rfl sF ?_; refine eK 3 rfl sL ?_; refine eP 4 rfl sM ?_; refine eP 5 rfl sM ?_; refine eP 6 rfl (s_idx rfl rfl hsm2 (by omega)) ?_; refine eK 7 rfl (s_ld rfl ((hMo.rdk hiA).ld i 0 hqi2 rfl (by decide) (by omega))) ?_; refine eP 8 rfl (s_idx rfl rfl he.sl (by omega)) ?_; refine eK 9 rfl (s_ld rfl ((he.rdk hiA).ld q 0 hqe rfl (by decide) (by omega))) ?_
         refine eO 10 rfl ?_; refine o_bs (E := Ebo) (xs := [e]) (vs := [_]) rfl rfl rfl rfl rfl (by decide) (by decide) fun b152 S152 hS152 => ?_; refine oX (eO 11 rfl ?_); refine o_app hEn (hS152.rdk hiA) rfl rfl rfl rfl (by simp only [List.length_append, List.length_singleton]; omega) (by simp only [List.length_append, List.length_singleton]; omega) rfl pkA fun a153 c153 S153 hS153 => ?_; refine oX ?_; refine eP 12 rfl sF (eO 13 rfl ?_); refine o_store rfl rfl rfl upA ltA rfl ?_; refine o_nil ?_; refine x_oneL rfl ?_; refine e_done (by kernel_rfl) ?_; refine x_block (xZ hK27 (c_region (oM ?_))); refine oS sD (oA (o_nil ?_)); exact xI (i + 1, ⟨met, m.next ++ [(lrowT pm lv (wr.xs.take K) m.met).1], m.ends ++ [e]⟩, rows ++ [(⟨some ⟨b86, 0, none⟩, K, (lrowT pm lv (wr.xs.take K) m.met).1⟩ : Sl Int)], a140, c140, a153, c153, ma, mc, es, c, Sm, S140, Sq2 ++ Sl0, S153) ⟨by rw [← hrun, lmRun_step (by omega) hlt (by omega), lmStep_eq hqi hrow hqe, hlrT, ← hmet, Nat.sub_sub], by dsimp only; omega, by omega, by dsimp only; omega, hml, hN, hMo, hS140, ownL_snoc hRq (by rw [lrowK_len (by omega)]) hL, by dsimp only; rw [List.map_append, ← hRx]; rfl, hS153, by simp [hnli], by simp [heli]⟩
      ·refine oS (step_cast (v' := .bool false) (s_lss rfl rfl) (congrArg Value.bool (decide_eq_false (by omega)))) ?_; refine oZ hK26 ?_; refine cF ?_; refine c_exit ?_; refine x_then_exit (x_then_exit (x_block_exit (xZ hK23 (cR fun _ hK48 => ?_)))); refine oS (s_ldB rfl (RdPK.cels (.own meA)) lnA) ?_; refine o_stW rfl rfl upA lnA lnA onA ?_; refine oA (oZ hK48 (c_ret ?_)); refine ?_; exact x_ret rfl (.agg inferInstance inferInstance rfl (RdPK.cels (.own meA)) lnA (.tmp rfl (.nil))) (⟨Sr ++ (Sq2 ++ (Se2 ++ S56)), by exact hzB, .ok (d := ⟨m.next, m.ends, at_⟩) ⟨hsh, x, ks, lv, m, hS, hrf, by omega, by rw [wdM, ← hat, ← hX, ← hroot, ← hWd]; exact hLv, by rw [lmOf, wdM, ← hat, ← hX, ← hroot, ← hWd, ← hKd, ← hpm, ← hrun]; exact lmRun_end (by omega) hlt, rfl, rfl, hat⟩ rfl ⟨na2, nc2, rows, ea2, ec2, a56, n56, Sr, Sq2, Se2, S56, rfl, rfl, hR, hRq, hRx, hEn, hS56⟩⟩)
   ·refine oA (oZ hK5 ?_); refine cT (cR fun _ hK49 => ?_); refine oS (s_build (cs := [_, _, _]) (vs := []) rfl rfl (.nil)) ?_; refine o_stW rfl rfl upA lnA lnA onA ?_; refine oA (oZ hK49 (c_ret ?_)); refine x_block_ret (x_then_ret (?_))
    exact x_ret rfl (.agg inferInstance inferInstance rfl (RdPK.cels (.own meA)) lnA (.tmp rfl (.nil))) (⟨[], by exact hzB, .err (.inr (.inl ⟨hsh, hrf, rfl⟩)) rfl⟩)
set_option maxHeartbeats 4000000 in
theorem make_fn (ra : Option Addr) (rc : Nat) (re : List Nd) (hre : ∀ x ∈ re, -128 ≤ x.op ∧ x.op < 128) : HL.Fn Tryz.prog 9 [.slice ra re.length rc] (fun W => Rd En W (.slice ra re.length rc) re ∧ Tb [] W) [] (MakeP re) :=
  HL.Fn.sub (makeO_fn ra rc re hre) fun v S' ⟨S2, h1, h2⟩ => ⟨S2, h1, h2⟩
end Go.Proofs.YtmompllplidphaaGreatDoor
namespace Go.HL.Sts
open Go Go.HL Go.HL.Kl Go.HL.Kl.Mc
def arrI (f : Nat → Int) : List Value := (List.range 256).map fun i => .int .i64 (f i)
theorem arrI_len (f : Nat → Int) : (arrI f).length = 256 := by simp [arrI]
theorem arrI_get {f : Nat → Int} {i : Nat} (h : i < 256) : (arrI f)[i]? = some (.int .i64 (f i)) := by simp [arrI, List.getElem?_range h]
theorem arrI_one (f : Nat → Int) : ∀ v ∈ arrI f, v.oneCell' = true := by
  intro v hv
  obtain ⟨i, _, rfl⟩ := List.mem_map.1 hv
  rfl
theorem arrI_congr {f g : Nat → Int} (h : ∀ i, i < 256 → f i = g i) : arrI f = arrI g := List.map_congr_left fun i hi => by rw [h i (by simpa using hi)]
theorem arrI_set {f : Nat → Int} {x : Nat} {v : Int} (_h : x < 256) : (arrI f).set x (.int .i64 v) = arrI (fun i => if i = x then v else f i) := by
  apply List.ext_getElem?
  intro i
  rw [List.getElem?_set]
  rcases Nat.lt_or_ge i 256 with hi | hi
  · rw [arrI_get hi, arrI_get hi]
    by_cases e : x = i
    · subst e; rw [if_pos rfl, if_pos (by rw [arrI_len]; exact hi), if_pos rfl]
    · rw [if_neg e, if_neg (fun h => e h.symm)]
  · have h1 : (arrI f)[i]? = none := List.getElem?_eq_none (by rw [arrI_len]; exact hi)
    have h2 : (arrI fun i => if i = x then v else f i)[i]? = none := List.getElem?_eq_none (by rw [arrI_len]; exact hi)
    rw [h1, h2, if_neg (by omega)]
theorem arrI_zero : arrI (fun _ => 0) = List.replicate 256 (.int .i64 0) := by
  simp [arrI, List.map_const']
def allT (l : List Kl.Cl) (k : Nat) : Kl.Cl := orAll (l.take k) 0
theorem allT_succ {l : List Kl.Cl} {k : Nat} {a : Kl.Cl} (h : l[k]? = some a) : allT l (k + 1) = allT l k ||| a := by
  unfold allT
  rw [take_succ_get h]; simp [orAll]
def lastT (l : List Kl.Cl) : Nat → Int
  | 0 => -1
  | k + 1 => firstI (l[k]?.getD 0)
theorem firstI_ge (a : Kl.Cl) : -1 ≤ firstI a := by unfold firstI; split <;> omega
theorem lastT_ge (l : List Kl.Cl) (k : Nat) : -1 ≤ lastT l k := by
  cases k with
  | zero => exact Int.le_refl _
  | succ k => exact firstI_ge _
theorem firstI_nil {a : Kl.Cl} (h : mems a = []) : firstI a = -1 := by simp [firstI, h]
theorem firstI_head {a : Kl.Cl} {x : Nat} (h : [x] <+: mems a) : firstI a = x := by
  have h1 := least_head h
  unfold firstI
  rw [if_neg (by obtain ⟨t, ht⟩ := h; rw [← ht]; simp)]
  omega
theorem sh_bad {l : List Kl.Cl} {k : Nat} {a : Kl.Cl} (h : l[k]? = some a) (hb : firstI a ≤ lastT l k ∨ allT l k &&& a ≠ 0) : shA (l.drop k) (allT l k) (lastT l k) = false := by
  have hk := (List.getElem?_eq_some_iff.1 h).1
  rw [List.drop_eq_getElem_cons hk, (List.getElem?_eq_some_iff.1 h).2]
  unfold shA
  rw [if_pos hb]
theorem sh_next {l : List Kl.Cl} {k : Nat} {a : Kl.Cl} (h : l[k]? = some a) (h1 : ¬ firstI a ≤ lastT l k) (h2 : ¬ allT l k &&& a ≠ 0) : shA (l.drop k) (allT l k) (lastT l k) = shA (l.drop (k + 1)) (allT l (k + 1)) (lastT l (k + 1)) := by
  have hk := (List.getElem?_eq_some_iff.1 h).1
  have e : lastT l (k + 1) = firstI a := by simp [lastT, h]
  rw [List.drop_eq_getElem_cons hk, (List.getElem?_eq_some_iff.1 h).2, allT_succ h, e]
  conv => lhs; unfold shA
  rw [if_neg (fun h => h.elim h1 h2)]
theorem sh_end (l : List Kl.Cl) : shA (l.drop l.length) (allT l l.length) (lastT l l.length) = decide (allT l l.length = fullC) := by simp [shA]
theorem shP_size {d : Df} (h : ¬ sizeOk d) : shP d = false := by unfold shP; rw [decide_eq_false h]; rfl
theorem shP_atoms {d : Df} (h : shA d.atoms 0 (-1) = false) : shP d = false := by unfold shP; rw [h]; simp
theorem shP_row {d : Df} {r : List Int} (h : r ∈ d.next) (hr : ¬ rowOk d.ends.length d.atoms.length r) : shP d = false := by
  have h2 : ¬ ∀ r ∈ d.next, rowOk d.ends.length d.atoms.length r := fun hh => hr (hh r h)
  unfold shP
  rw [decide_eq_false h2]; simp
theorem shP_true {d : Df} (h : sizeOk d) (h1 : shA d.atoms 0 (-1) = true) (h2 : ∀ r ∈ d.next, rowOk d.ends.length d.atoms.length r) : shP d = true := by
  unfold shP
  rw [decide_eq_true h, h1, decide_eq_true h2]; rfl
theorem lst_arr {l : List Kl.Cl} {k : Nat} {a : Kl.Cl} (h : l[k]? = some a) : arrI (fun i => if i ∈ mems a then (k : Int) else (lst l i k : Nat)) = arrI (fun i => (lst l i (k + 1) : Nat)) := by
  refine arrI_congr fun i _ => ?_
  simp only [lst, h, Option.getD_some, mem_mems]
  by_cases e : a.getLsbD i = true
  · rw [if_pos e, if_pos e]
  · rw [if_neg e, if_neg e]
theorem lst_snoc (l : List Kl.Cl) (k x : Nat) (p : List Nat) : arrI (fun i => if i = x then (k : Int) else if i ∈ p then (k : Int) else (lst l i k : Nat)) = arrI (fun i => if i ∈ p ++ [x] then (k : Int) else (lst l i k : Nat)) := by
  refine arrI_congr fun i _ => ?_
  by_cases e : i = x
  · subst e; simp
  · simp [e]
theorem nxt_get {d : Df} {q k : Nat} {row : List Int} {v : Int} (h : d.next[q]? = some row) (hv : row[k]? = some v) : nxt d (q : Int) k = v := by simp [nxt, h, hv]
theorem tkP_stop {d : Df} {w : List UInt8} {k q : Nat} {u : UInt8} {v : Int} (hu : w[k]? = some u) (hv : nxt d (q : Int) (lst d.atoms u.toNat d.atoms.length) = v) (h : v < 0) : tkP d (w.drop k) (q : Int) = false := by
  have hk := (List.getElem?_eq_some_iff.1 hu).1
  rw [List.drop_eq_getElem_cons hk, (List.getElem?_eq_some_iff.1 hu).2]
  simp only [tkP]
  rw [hv, if_pos h]
theorem tkP_next {d : Df} {w : List UInt8} {k q : Nat} {u : UInt8} {v : Int} (hu : w[k]? = some u) (hv : nxt d (q : Int) (lst d.atoms u.toNat d.atoms.length) = v) (h : ¬ v < 0) : tkP d (w.drop k) (q : Int) = tkP d (w.drop (k + 1)) v := by
  have hk := (List.getElem?_eq_some_iff.1 hu).1
  rw [List.drop_eq_getElem_cons hk, (List.getElem?_eq_some_iff.1 hu).2]
  simp only [tkP]
  rw [hv, if_neg h]
theorem tkP_end {d : Df} {w : List UInt8} {q : Nat} {e : Bool} (h : d.ends[q]? = some e) : tkP d (w.drop w.length) (q : Int) = e := by simp [tkP, h]
theorem takesP_yes {d : Df} {w : List UInt8} (h : shP d = true) : takesP d w = tkP d w 0 := by simp [takesP, h]
theorem takesP_no {d : Df} {w : List UInt8} (h : shP d = false) : takesP d w = false := by simp [takesP, h]
/-! the document's -/
theorem leastR_at {c : Kl.Cl} {b : Nat} (hb : b < 256) (h : c.getLsbD b = true) (hl : ∀ j, j < b → c.getLsbD j = false) : leastR c = b := by
  have hne := bit_ne h
  rw [leastR_eq hne]
  have h1 := least_spec hne
  have h2 := h1.2 b h
  rcases Nat.lt_or_ge (least c) b with h3 | h3
  · have := hl _ h3
    rw [h1.1] at this; cases this
  · omega
theorem leastR_none {c : Kl.Cl} (hl : ∀ j, j < 256 → c.getLsbD j = false) : leastR c = 0 := by
  have : c = 0#256 := by
    apply cl_ext
    intro j hj
    rw [hl j hj]; simp
  subst this
  unfold leastR
  rw [if_pos (mems_nil.2 rfl)]
theorem fstK_at {l : List Kl.Cl} {k b : Nat} {a : Kl.Cl} (h : l[k]? = some a) (hb : a.getLsbD b = true) (hl : ∀ j c, j < k → l[j]? = some c → c.getLsbD b = false) : fstK l b = k := by
  have hk := (List.getElem?_eq_some_iff.1 h).1
  unfold fstK
  rw [List.findIdx_eq hk]
  refine ⟨by rw [(List.getElem?_eq_some_iff.1 h).2]; exact hb, fun j hj => ?_⟩
  exact hl j _ hj (List.getElem?_eq_getElem (by omega))
theorem fstK_none {l : List Kl.Cl} {b : Nat} (hl : ∀ j c, j < l.length → l[j]? = some c → c.getLsbD b = false) : ¬ fstK l b < l.length := by
  intro h
  have h1 : (l[fstK l b]).getLsbD b = true := List.findIdx_getElem (w := h)
  have h2 := hl _ _ h (List.getElem?_eq_getElem h)
  rw [h2] at h1; cases h1
theorem goesR_at {d : Df} {q k b : Nat} {a : Kl.Cl} {row : List Int} {v : Int} (h : d.atoms[k]? = some a) (hb : a.getLsbD b = true) (hl : ∀ j c, j < k → d.atoms[j]? = some c → c.getLsbD b = false) (hr : d.next[q]? = some row) (hv : row[k]? = some v) : goesR d (q : Int) b = v := by
  unfold goesR
  rw [if_neg (by omega), fstK_at h hb hl, if_pos (List.getElem?_eq_some_iff.1 h).1, nxt_get hr hv]
theorem goesR_neg {d : Df} {q : Int} {b : Nat} (h : q < 0) : goesR d q b = -1 := by unfold goesR; rw [if_pos h]
theorem goesR_none {d : Df} {q : Int} {b : Nat} (hl : ∀ j c, j < d.atoms.length → d.atoms[j]? = some c → c.getLsbD b = false) : goesR d q b = -1 := by
  unfold goesR
  split
  · rfl
  · rw [if_neg (fstK_none hl)]
theorem hasN_yes {l : List Kl.Cl} {k b : Nat} {a : Kl.Cl} (h : l[k]? = some a) (hb : a.getLsbD b = true) : hasN (l.take (k + 1)) b = hasN (l.take k) b + 1 := by
  rw [take_succ_get h]; simp [hasN, hb]
theorem hasN_no {l : List Kl.Cl} {k b : Nat} {a : Kl.Cl} (h : l[k]? = some a) (hb : a.getLsbD b = false) : hasN (l.take (k + 1)) b = hasN (l.take k) b := by
  rw [take_succ_get h]; simp [hasN, hb]
theorem hasN_le (l : List Kl.Cl) (b : Nat) : hasN l b ≤ l.length := List.countP_le_length
theorem riseAt_yes {l : List Kl.Cl} {k : Nat} {a : Kl.Cl} (h : l[k]? = some a) (hs : size a ≠ 0) (hr : k = 0 ∨ leastR ((l[k - 1]?).getD 0) ≤ leastR a) : riseAt l k = true := by
  simp only [riseAt, h, decide_eq_true hs, Bool.true_and]
  rcases hr with hr | hr
  · rw [decide_eq_true hr]; rfl
  · rw [decide_eq_true hr, Bool.or_true]
theorem riseAt_size {l : List Kl.Cl} {k : Nat} {a : Kl.Cl} (h : l[k]? = some a) (hs : size a = 0) : riseAt l k = false := by
  simp [riseAt, h, hs]
theorem riseAt_less {l : List Kl.Cl} {k : Nat} {a c : Kl.Cl} (h : l[k]? = some a) (hk : 0 < k) (hc : l[k - 1]? = some c) (hr : leastR c > leastR a) : riseAt l k = false := by
  simp only [riseAt, h, hc, Option.getD_some, decide_eq_false (show ¬ k = 0 by omega), Bool.false_or, decide_eq_false (show ¬ leastR c ≤ leastR a by omega), Bool.and_false]
theorem shR_size {d : Df} (h : ¬ sizeOk d) : shR d = false := by unfold shR; rw [decide_eq_false h]; rfl
theorem shR_has {d : Df} {b : Nat} (hb : b < 256) (h : hasN d.atoms b ≠ 1) : shR d = false := by
  have h2 : ¬ hasAll d.atoms = true := fun hh => h (hasAll_iff.1 hh b hb)
  unfold shR
  rw [Bool.not_eq_true] at h2
  rw [h2]; simp
theorem shR_rise {d : Df} {k : Nat} (hk : k < d.atoms.length) (h : riseAt d.atoms k = false) : shR d = false := by
  have h2 : ¬ ∀ k, k < d.atoms.length → riseAt d.atoms k = true := fun hh => by have := hh k hk; rw [h] at this; cases this
  unfold shR
  rw [decide_eq_false h2]; simp
theorem shR_row {d : Df} {r : List Int} (h : r ∈ d.next) (hr : ¬ rowOk d.ends.length d.atoms.length r) : shR d = false := by
  have h2 : ¬ ∀ r ∈ d.next, rowOk d.ends.length d.atoms.length r := fun hh => hr (hh r h)
  unfold shR
  rw [decide_eq_false h2]; simp
theorem shR_true {d : Df} (h : sizeOk d) (h1 : ∀ b, b < 256 → hasN d.atoms b = 1) (h2 : ∀ k, k < d.atoms.length → riseAt d.atoms k = true) (h3 : ∀ r ∈ d.next, rowOk d.ends.length d.atoms.length r) : shR d = true := by
  unfold shR
  rw [decide_eq_true h, hasAll_iff.2 h1, decide_eq_true h2, decide_eq_true h3]; rfl
end Go.HL.Sts
namespace Go.HL
open Go
section
variable {P : Program} {κ : Cx} {Q : Pst} {L : Loc} {H : Hp}
structure InvM (κ : Cx) {ι : Type} (I : ι → Prop) (Lf : ι → Loc) (Hf : ι → Hp) (m : ι → Nat) (i : ι) (a : Act) (w : World) : Prop where
  out : ∃ (j : ι) (ds : List Deferred) (Ms : Hp), I j ∧ Marks ds Ms ∧ m j < m i ∧ Ok ⟨κ.n, ds, κ.w0, κ.M⟩ (Lf j) (Ms ++ Hf j) a w
theorem c_loopM {ι : Type} {body : Code} (I : ι → Prop) (mods : ι → Loc) (base : Loc) (Hf : ι → Hp) (m : ι → Nat) (i0 : ι) (h0 : I i0) (hL : Sub L (mods i0)) (hb : Sub L base) (hds : κ.ds = []) (hH : HSub H (Hf i0))
    (round : ∀ i ds Ms, I i → Marks ds Ms → C P ⟨κ.n, ds, κ.w0, κ.M⟩ (Exit.then (InvM κ I (fun i => mods i ++ base) Hf m i) Q) body (mods i ++ base) (Ms ++ Hf i)) : C P κ Q (.loop body) L H := by
  refine ⟨fun ro a w hr ok => ?_⟩
  have key : ∀ n, ∀ i ds Ms, m i = n → I i → Marks ds Ms → ∀ a w, Ok ⟨κ.n, ds, κ.w0, κ.M⟩ (mods i ++ base) (Ms ++ Hf i) a w → ∀ (b : Frame) (k : List Item) (cs : List Frame), b.roundOf = ro →
      ∃ e a' w', Q e a' w' ∧ ArrivesIn (Machine.fenced P (FR ro)) P (lone (b.atR a (.code body :: .inLoop body :: k)) cs w) b k cs e a' w' := by
    intro n
    induction n using Nat.strongRecOn with
    | _ n ih =>
      intro i ds Ms hn hI hMs a w ok b k cs hb
      obtain ⟨e, a₁, w₁, hq, harr⟩ := (round i ds Ms hI hMs).out ro a w (hr.imp id fun h => by simpa [noDefC] using h) ok b (.inLoop body :: k) cs hb trivial (room_FR _ _)
      cases e with
      | normal =>
        obtain ⟨j, ds', Ms', hI₁, hM₁, hlt, ok₁⟩ := hq.out
        obtain ⟨e₂, a₂, w₂, hq₂, harr₂⟩ := ih (m j) (hn ▸ hlt) j ds' Ms' rfl hI₁ hM₁ a₁ w₁ ok₁ b k cs hb
        exact ⟨e₂, a₂, w₂, hq₂, .of_steps (StepsIn.trans harr (.one (fenced_wide P _) stepR_inLoop)) harr₂⟩
      | exit id => exact ⟨_, a₁, w₁, hq, .pass (x := .inLoop body) rfl (fun _ _ => .inl (by simp)) harr⟩
      | goto l => exact ⟨_, a₁, w₁, hq, .pass (x := .inLoop body) rfl (fun _ _ => .inl (by simp)) harr⟩
      | ret => exact ⟨_, a₁, w₁, hq, .pass (x := .inLoop body) rfl (fun _ _ => .inl (by simp)) harr⟩
      | panic ch => exact ⟨_, a₁, w₁, hq, .pass (x := .inLoop body) rfl (fun _ _ => .inl (by simp)) harr⟩
      | outgrown => exact ⟨_, a₁, w₁, hq, .pass (x := .inLoop body) rfl (fun _ _ => .inl (by simp)) harr⟩
  intro b k cs hb' _ _
  obtain ⟨e, a', w', hq, harr⟩ := key _ i0 κ.ds [] rfl h0 (by rw [hds]; exact .nil) a w ⟨ok.fr.sub (hL.app hb), ok.st.sub hH⟩ b k cs hb'
  exact ⟨e, a', w', hq, .of_steps (.one (fenced_wide P _) stepR_loop) harr⟩
theorem x_invM {n : Nat} {w0 : World} {M : List Nat} {ds0 : List Deferred} {ι : Type} {I : ι → Prop} {Lf : ι → Loc} {Hf : ι → Hp} {m : ι → Nat} {i : ι} (j : ι) (hI : I j) (hm : m j < m i) {ds : List Deferred} {Ms R : Hp} (hM : Marks ds Ms) (hL : Sub L (Lf j)) (hpk : Pick H Ms R) (hH : HSub R (Hf j)) :
    X ⟨n, ds, w0, M⟩ (InvM ⟨n, ds0, w0, M⟩ I Lf Hf m i) L H := ⟨fun _ _ ok => ⟨j, ds, Ms, hI, hM, hm, ok.fr.sub hL, (ok.st.perm hpk.perm).sub hH.keeps⟩⟩
end
end Go.HL
