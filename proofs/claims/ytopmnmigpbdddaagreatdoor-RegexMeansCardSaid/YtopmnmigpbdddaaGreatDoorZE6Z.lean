/- Part of the proofs over this seat: see the text that holds the theorem. Conditions: each theorem bears its own. -/
import Derived.Test.YtopmnmigpbdddaaGreatDoorHTZ
import Derived.Test.YtopmnmigpbdddaaGreatDoorZE5Z
import Derived.Test.YtopmnmigpbdddaaGreatDoorHlB
import Derived.Test.YtopmnmigpbdddaaGreatDoorMT3Z
import Derived.Test.YtopmnmigpbdddaaGreatDoorZW9Z
import Derived.Test.YtopmnmigpbdddaaGreatDoorHMZ
namespace Go.Proofs.YtopmnmigpbdddaaGreatDoor
open Go Go.HL Go.Proofs Go.HL.Kl Go.HL.Kl.Mc Go.HL.Kl.Mc.AskE
open MeE
theorem ends_all (K : MeE) (hK : K.ok) : ∀ (n : Nat) (x : Nd) (ks : F), ks.size < n → K.EndsT x ks
  | 0, _, _, h => absurd h (Nat.not_lt_zero _)
  | n + 1, x, ks, h => fun at_ i1 hp i hi σ hI => ends_fnM K hK x ks (fun y js hj => ends_all K hK n y js (by omega)) at_ i1 hp i hi σ hI
theorem ends_of (K : MeE) (hK : K.ok) (x : Nd) (ks : F) : K.EndsT x ks := ends_all K hK (ks.size + 1) x ks (Nat.lt_succ_self _)
theorem zers_rep : ∀ (n m : Nat), zers (List.replicate n (List.replicate m 0)) = n * m
  | 0, m => by simp [zers]
  | n + 1, m => by
    have h := zers_rep n m
    have h2 : zer (List.replicate m 0) = m := by simp [zer, List.countP_replicate]
    simp only [zers] at h ⊢
    rw [List.replicate_succ, List.map_cons, List.sum_cons, h, h2, Nat.succ_mul, Nat.add_comm]
theorem Inv.begun {K : MeE} (hb : K.re.length * (K.w.length + 1) ≤ 1000000) {SR : Hp} (h : OwnL Eix 1 3 K.sls (List.replicate K.re.length (List.replicate (K.w.length + 1) 0)) SR) : K.Inv ⟨List.replicate K.re.length (List.replicate (K.w.length + 1) 0), SR, none, 0, [], [], []⟩ :=
  ⟨h, .nil, .begun, fun s hs => (by cases hs), fun k l hk => (by rw [(List.mem_replicate.1 (List.mem_of_getElem? hk)).2, List.length_replicate]), by rw [zers_rep]; simpa using hb⟩
set_option maxHeartbeats 1000000 in
theorem last_fnM (K : MeE) (hK : K.ok) (x : Nd) (ks : F) (at_ i1 : Nat) (hp : Part K.re (.nd x ks .nil) at_ i1) (i : Nat) (hi : i ≤ K.w.length) (σ0 : MeS) (hI0 : K.Inv σ0) : HL.Fn Tryz.prog 16 [pt K.bM, .int .i64 at_, .int .i64 i] (fun W => K.Env W ((K.bM, .cells [.slice K.ra K.re.length K.rc, .slice K.ta K.w.length K.tc, .slice K.ma K.sls.length K.mc, .slice σ0.sa σ0.ss.length σ0.sc].toArray 132 (0, 0)) :: (σ0.SR ++ (σ0.SS ++ σ0.Pool)))) ((K.bM, .cells [.slice K.ra K.re.length K.rc, .slice K.ta K.w.length K.tc, .slice K.ma K.sls.length K.mc, .slice σ0.sa σ0.ss.length σ0.sc].toArray 132 (0, 0)) :: (σ0.SR ++ (σ0.SS ++ σ0.Pool))) (fun v S' => ∃ (r : Int) (σ' : MeS), v = .int .i64 r ∧ S' = ((K.bM, .cells [.slice K.ra K.re.length K.rc, .slice K.ta K.w.length K.tc, .slice K.ma K.sls.length K.mc, .slice σ'.sa σ'.ss.length σ'.sc].toArray 132 (0, 0)) :: (σ'.SR ++ (σ'.SS ++ σ'.Pool))) ∧ K.Ext at_ i1 σ0 σ' ∧ LastI K.w x ks i r) := by
  refine fn_of Tryz.func16 rfl rfl rfl fun w0 hw => ?_
  have hwl := hK.wl
  refine c_seq fun _ hK1 => ?_; refine c_region ?_; refine o_step rfl (s_assign rfl) ?_; refine o_nil ?_; refine x_then (hK1 _ _ ?_); refine c_seq fun _ hK2 => ?_; refine c_region ?_; refine o_step rfl (s_move rfl) ?_; refine o_step rfl (s_move rfl) ?_; refine o_step rfl (s_move rfl) ?_; refine o_call (ends_of K hK x ks at_ i1 hp i hi σ0 hI0) rfl rfl rfl ((Pick.takeC pkA (Pick.takeA pkA pkA))) (fun _ st => ⟨(RdK.old hw.d1 hw.a1).out _ st, St.apart_M st (by exact hiB) hw.d1 hw.a1 (by decide), (RdK.old hw.d2 hw.a2).out _ st, St.apart_M st (by exact hiB) hw.d2 hw.a2 (by decide), (RdK.old hw.d3 hw.a3).out _ st, St.apart_M st (by exact hiB) hw.d3 hw.a3 (by decide)⟩) (fun v12 S12 ⟨a12, c12, l12, S012, σ12, hv12, hS12, hO12, hi12, hI12, hX12⟩ => ?_); subst hv12
  subst hS12
  have hl12 := hI12.len
  have hs12 := hO12.sl
  refine o_step rfl (s_assign rfl) ?_; refine o_nil ?_; refine x_then (hK2 _ _ ?_); refine c_seq fun _ hK3 => ?_; refine c_seq fun _ hK4 => ?_; refine c_region ?_; refine o_step rfl (s_move rfl) ?_; refine o_step rfl (s_len rfl) ?_; refine o_step rfl (s_sub rfl rfl (by omega)) ?_; refine o_step rfl (s_assign rfl) ?_; refine o_nil ?_; refine x_then (hK4 _ _ ?_); refine c_block ?_
  -- not carried: 6
  refine c_loopB (fun (z : Int) => -1 ≤ z ∧ z ≤ K.w.length ∧ ∀ q : Nat, z < q → q ≤ K.w.length → ¬ der1 K.w x ks i q) (fun (z : Int) => [(8, .int .i64 z)]) [(7, _)] (fun (z : Int) => (K.bM, .cells [.slice K.ra K.re.length K.rc, .slice K.ta K.w.length K.tc, .slice K.ma K.sls.length K.mc, .slice σ12.sa σ12.ss.length σ12.sc].toArray 132 (0, 0)) :: (σ12.SR ++ (σ12.SS ++ σ12.Pool))) (fun (z : Int) => (z + 1).toNat) ((l12.length : Int) - 1) ⟨by omega, by omega, fun q h1 h2 => by omega⟩ sbA sbA hzB ?_
  rintro z ⟨hz1, hz2, hzn⟩
  refine c_seq fun _ hK5 => ?_; refine c_seq fun _ hK6 => ?_; refine c_region ?_; refine o_step rfl (s_move rfl) ?_
  by_cases hz : z ≥ 0
  ·
   obtain ⟨k, rfl⟩ : ∃ k : Nat, z = k := ⟨z.toNat, by omega⟩
   refine o_step rfl (step_cast (v' := .bool true) (s_geq rfl rfl) (by rw [decide_eq_true (by omega)])) ?_; refine o_nil ?_; refine x_then (hK6 _ _ ?_); refine c_true rfl ?_; refine c_skip ?_; refine x_then (hK5 _ _ ?_); refine c_seq fun _ hK7 => ?_; refine c_block ?_; refine c_seq fun _ hK8 => ?_; refine c_region ?_; refine o_step rfl (s_move rfl) ?_; refine o_step rfl (s_move rfl) ?_; refine o_step rfl (s_idx rfl rfl hs12 (by omega)) ?_
   by_cases hb : bo0 l12 k = true
   ·
    refine o_step rfl (step_cast (v' := .bool true) (s_ld rfl (((hO12.rds.mono hi12).rdk hiA).ld k 0 (bo0_get (by omega)) rfl (by decide) (by omega))) (by rw [hb])) ?_; refine o_nil ?_; refine x_then (hK8 _ _ ?_); refine c_true rfl ?_; refine c_seq fun _ hK9 => ?_; refine c_region ?_; refine o_step rfl (s_move rfl) ?_; refine o_step rfl (s_assign rfl) ?_; refine o_nil ?_; refine x_then (hK9 _ _ ?_); refine c_ret ?_; refine x_block_ret (x_then_ret (x_then_ret (x_block_ret (x_then_ret (?_)))))
    refine x_sub (Sub.refl _) (H' := ((K.bM, .cells [.slice K.ra K.re.length K.rc, .slice K.ta K.w.length K.tc, .slice K.ma K.sls.length K.mc, .slice σ12.sa σ12.ss.length σ12.sc].toArray 132 (0, 0)) :: (σ12.SR ++ (σ12.SS ++ σ12.Pool)))) hzB ?_; exact x_ret rfl (.tmp rfl (.nil)) (⟨_, σ12, rfl, rfl, hX12, .inl ⟨k, rfl, by omega, (hI12.get k (by omega)).1 (bo0_true.1 hb), fun q h1 h2 => hzn q (by omega) h2⟩⟩)
   ·
    refine o_step rfl (step_cast (v' := .bool false) (s_ld rfl (((hO12.rds.mono hi12).rdk hiA).ld k 0 (bo0_get (by omega)) rfl (by decide) (by omega))) (by rw [Bool.eq_false_iff.2 hb])) ?_; refine o_nil ?_; refine x_then (hK8 _ _ ?_); refine c_false rfl ?_; refine c_skip ?_; refine x_block ?_; refine x_then (hK7 _ _ ?_); refine c_region ?_; refine o_step rfl (s_move rfl) ?_; refine o_step rfl (s_sub rfl rfl (by omega)) ?_; refine o_step rfl (s_assign rfl) ?_; refine o_nil ?_; exact x_then (x_inv ((k : Int) - 1) ⟨by omega, by omega, fun q h1 h2 => if e : q = k then (by subst e; exact fun h => hb (bo0_true.2 ((hI12.get q h2).2 h))) else hzn q (by omega) h2⟩ (by first | omega | (dsimp only; omega)) sbA hzB)
  ·
   refine o_step rfl (step_cast (v' := .bool false) (s_geq rfl rfl) (by rw [decide_eq_false (by omega)])) ?_; refine o_nil ?_; refine x_then (hK6 _ _ ?_); refine c_false rfl ?_; refine c_exit ?_; refine x_then_exit ?_; refine x_then_exit ?_; refine x_block_exit ?_; refine x_then (hK3 _ _ ?_); refine c_seq fun _ hK10 => ?_; refine c_region ?_; refine o_step rfl (s_assign rfl) ?_; refine o_nil ?_; refine x_then (hK10 _ _ ?_); refine c_ret ?_; refine ?_; refine x_sub (Sub.refl _) (H' := ((K.bM, .cells [.slice K.ra K.re.length K.rc, .slice K.ta K.w.length K.tc, .slice K.ma K.sls.length K.mc, .slice σ12.sa σ12.ss.length σ12.sc].toArray 132 (0, 0)) :: (σ12.SR ++ (σ12.SS ++ σ12.Pool)))) hzB ?_; exact x_ret rfl (.tmp rfl (.nil)) (⟨_, σ12, rfl, rfl, hX12, .inr ⟨rfl, fun q h => hzn q (by omega) h⟩⟩)

set_option maxHeartbeats 1000000 in
theorem begun_fnM (ra : Option Addr) (rc : Nat) (re : List Nd) (ta : Option Addr) (tc : Nat) (w : List UInt8) (hrl : re.length ≤ 1000000) (hwl : w.length ≤ 1000000) (hb : re.length * (w.length + 1) ≤ 1000000) : HL.Fn Tryz.prog 15 [.slice ra re.length rc, .slice ta w.length tc] (fun _ => True) [] (fun v S' => ∃ (bM : Nat) (ma : Option Addr) (mc : Nat) (sls : List (Sl Nat)) (SM : Hp) (σ : MeS), v = pt bM ∧ S' = (bM, .cells [.slice ra re.length rc, .slice ta w.length tc, .slice ma sls.length mc, .slice σ.sa σ.ss.length σ.sc].toArray 132 (0, 0)) :: (SM ++ (σ.SR ++ (σ.SS ++ σ.Pool))) ∧ OwnS Esl 1 37 (.slice ma sls.length mc) sls SM ∧ sls.length = re.length ∧ MeE.Inv (⟨bM, ra, rc, re, ta, tc, w, ma, mc, sls⟩ : MeE) σ) := by
  refine fn_of Tryz.func15 rfl rfl rfl fun w0 hw => ?_
  obtain ⟨zs, hzs⟩ : ∃ zs : List Nat, zs = (List.replicate (w.length + 1) 0) := ⟨_, rfl⟩
  have hzl : zs.length = w.length + 1 := by rw [hzs, List.length_replicate]
  refine c_seq fun _ hK1 => ?_; refine c_region ?_; refine o_step rfl (s_assign rfl) ?_; refine o_nil ?_; refine x_then (hK1 _ _ ?_); refine c_seq fun _ hK2 => ?_; refine c_region ?_; refine o_step rfl (s_move rfl) ?_; refine o_step rfl (s_move rfl) ?_; refine o_step rfl (step_cast (v' := .agg [.slice ra re.length rc, .slice ta w.length tc, .slice none 0 0, .slice none 0 0].toArray) (s_build (cs := [_, _, _, _]) (vs := [_, _]) rfl rfl (.cons rfl rfl rfl rfl rfl (.cons rfl rfl rfl rfl rfl .nil))) rfl) ?_; refine o_box rfl rfl rfl fun b10 => ?_; refine o_step rfl (s_assign rfl) ?_; refine o_nil ?_; refine x_then (hK2 _ _ ?_); refine c_seq fun _ hK3 => ?_; refine c_seq fun _ hK4 => ?_; refine c_region ?_; refine o_step rfl (s_assign rfl) ?_; refine o_nil ?_; refine x_then (hK4 _ _ ?_); refine c_block ?_; refine c_loop6 (fun (k : Nat) (sls : List (Sl Nat)) (ma : Option Addr) (mc : Nat) (SM : Hp) (SR : Hp) => k ≤ re.length ∧ sls.length = k ∧ OwnS Esl 1 37 (.slice ma sls.length mc) sls SM ∧ OwnL Eix 1 3 sls (List.replicate k (List.replicate (w.length + 1) 0)) SR) (fun (k : Nat) (sls : List (Sl Nat)) (ma : Option Addr) (mc : Nat) (SM : Hp) (SR : Hp) => [(6, .int .i64 k)]) [(0, _), (1, _), (4, _), (5, _)] (fun (k : Nat) (sls : List (Sl Nat)) (ma : Option Addr) (mc : Nat) (SM : Hp) (SR : Hp) => (b10, .cells [.slice ra re.length rc, .slice ta w.length tc, .slice ma sls.length mc, .slice none 0 0].toArray 132 (0, 0)) :: (SM ++ SR)) (fun (k : Nat) (sls : List (Sl Nat)) (ma : Option Addr) (mc : Nat) (SM : Hp) (SR : Hp) => re.length - k) 0 [] none 0 [] [] ⟨Nat.zero_le _, rfl, .nil, .nil⟩ sbA sbA hzB ?_
  rintro k sls ma mc SM SR ⟨hk, hsl, hOM, hL⟩
  refine c_seq fun _ hK5 => ?_; refine c_seq fun _ hK6 => ?_; refine c_region ?_; refine o_step rfl (s_move rfl) ?_; refine o_step rfl (s_move rfl) ?_; refine o_step rfl (s_len rfl) ?_
  by_cases hkr : (k : Int) < re.length
  ·
   refine o_step rfl (step_cast (v' := .bool true) (s_lss rfl rfl) (by rw [decide_eq_true (by omega)])) ?_; refine o_nil ?_; refine x_then (hK6 _ _ ?_); refine c_true rfl ?_; refine c_skip ?_; refine x_then (hK5 _ _ ?_); refine c_seq fun _ hK7 => ?_; refine c_block ?_; refine c_drawE ([(b10, .cells [.slice ra re.length rc, .slice ta w.length tc, .slice ma sls.length mc, .slice none 0 0].toArray 132 (0, 0))]) (fun i => Nat.beq i 13) ?_; refine e_pr 0 rfl (s_move rfl) ?_; refine e_pr 1 rfl (s_move rfl) ?_; refine e_pr 2 rfl (s_nil rfl) ?_; refine e_pr 3 rfl (s_field rfl rfl (by decide)) ?_; refine e_pr 5 rfl (s_move rfl) ?_; refine e_pr 6 rfl (s_len rfl) ?_; refine e_pr 7 rfl (s_add rfl rfl (by omega)) ?_; refine e_tk 4 rfl hzB (s_ld rfl (.own meA rfl)) ?_; refine e_one 8 rfl (by kernel_rfl) ?_; refine o_make (E := Eix) (zx := 0) (n := w.length + 1) rfl rfl rfl (by omega) (by omega) rfl fun b25 S25 hS25 => ?_
   rw [← hzs, ← hzl] at hS25
   rw [← hzl]
   refine o_nil ?_; refine x_oneS hzB ?_; refine e_one 9 rfl (by kernel_rfl) ?_; refine o_bs (E := Esl) (xs := [(⟨some ⟨b25, 0, none⟩, zs.length, zs⟩ : Sl Nat)]) (vs := [_]) rfl rfl rfl rfl rfl (by decide) (by decide) fun b26 S26 hS26 => ?_; refine o_nil ?_; refine x_oneS hzB ?_; refine e_one 10 rfl (by kernel_rfl) ?_; refine o_app hOM (hS26.rdk hiA) rfl rfl rfl rfl (by simp only [List.length_singleton]; omega) (by simp only [List.length_singleton]; omega) rfl pkA fun a27 c27 S27 hS27 => ?_; refine o_nil ?_; refine x_oneS hzB ?_; refine e_one 11 rfl (by kernel_rfl) ?_; refine o_step rfl (s_nil rfl) ?_; refine o_nil ?_; refine x_oneS hzB ?_; refine e_one 12 rfl (by kernel_rfl) ?_; refine o_step rfl (s_field rfl rfl (by decide)) ?_; refine o_nil ?_; refine x_oneS hzB ?_; refine e_one 13 rfl (by kernel_rfl) ?_; refine o_store rfl rfl rfl upA ltA rfl ?_; refine o_nil ?_; refine x_oneL rfl ?_
   refine e_done (by kernel_rfl) ?_; refine x_block ?_; refine x_then (hK7 _ _ ?_); refine c_region ?_; refine o_step rfl (s_move rfl) ?_; refine o_step rfl (s_add rfl rfl (by omega)) ?_; refine o_step rfl (s_assign rfl) ?_; refine o_nil ?_; exact x_then (x_inv (k + 1, sls ++ [(⟨some ⟨b25, 0, none⟩, zs.length, zs⟩ : Sl Nat)], a27, c27, S27, SR ++ S25) ⟨by dsimp only; omega, by simp [hsl], hS27, by dsimp only; rw [List.replicate_succ', ← hzs]; rw [← hzs] at hL; exact hL.snoc hS25⟩ (by first | omega | (dsimp only; omega)) sbA (by simp only [List.append_assoc]; exact hzB))
  ·
   obtain rfl : k = re.length := by omega
   refine o_step rfl (step_cast (v' := .bool false) (s_lss rfl rfl) (by rw [decide_eq_false (by omega)])) ?_; refine o_nil ?_; refine x_then (hK6 _ _ ?_); refine c_false rfl ?_; refine c_exit ?_; refine x_then_exit ?_; refine x_then_exit ?_; refine x_block_exit ?_; refine x_then (hK3 _ _ ?_); refine c_seq fun _ hK8 => ?_; refine c_region ?_; refine o_step rfl (s_move rfl) ?_; refine o_step rfl (s_assign rfl) ?_; refine o_nil ?_; refine x_then (hK8 _ _ ?_); refine c_ret ?_; refine ?_; refine x_sub (Sub.refl _) (H' := (b10, .cells [.slice ra re.length rc, .slice ta w.length tc, .slice ma sls.length mc, .slice none 0 0].toArray 132 (0, 0)) :: (SM ++ (SR ++ ([] ++ [])))) (by simpa using hzB) ?_; exact x_ret rfl (.tmp rfl (.nil)) (⟨b10, ma, mc, sls, SM, ⟨_, SR, none, 0, [], [], []⟩, rfl, rfl, hOM, hsl, Inv.begun (K := (⟨b10, ra, rc, re, ta, tc, w, ma, mc, sls⟩ : MeE)) hb hL⟩)

set_option maxHeartbeats 1000000 in
theorem groups_fnM (ra : Option Addr) (rc : Nat) (re : List Nd) (hre : ∀ x ∈ re, -128 ≤ x.op ∧ x.op < 128) (hrl : re.length ≤ 1000000)  : HL.Fn Tryz.prog 17 [.slice ra re.length rc] (fun W => Rd En W (.slice ra re.length rc) re) [] (fun v S' => ∃ (a : Option Addr) (c : Nat) (l : List Nat), v = .slice a l.length c ∧ OwnS Eix 1 3 (.slice a l.length c) l S' ∧ GpsI re l re.length) := by
  refine fn_of Tryz.func17 rfl rfl rfl fun w0 hw => ?_
  have hsl := hw.sl
  refine c_seq fun _ hK1 => ?_; refine c_region ?_; refine o_step rfl (s_assign rfl) ?_; refine o_nil ?_; refine x_then (hK1 _ _ ?_); refine c_seq fun _ hK2 => ?_; refine c_region ?_; refine o_step rfl (s_assign rfl) ?_; refine o_nil ?_; refine x_then (hK2 _ _ ?_); refine c_seq fun _ hK3 => ?_; refine c_seq fun _ hK4 => ?_; refine c_region ?_; refine o_step rfl (s_assign rfl) ?_; refine o_nil ?_; refine x_then (hK4 _ _ ?_); refine c_block ?_; refine c_loop5 (fun (k : Nat) (a : Option Addr) (c : Nat) (l : List Nat) (So : Hp) => k ≤ re.length ∧ OwnS Eix 1 3 (.slice a l.length c) l So ∧ GpsI re l k) (fun (k : Nat) (a : Option Addr) (c : Nat) (l : List Nat) (So : Hp) => [(4, .int .i64 k), (3, .slice a l.length c)]) [(0, _), (2, _)] (fun (k : Nat) (a : Option Addr) (c : Nat) (l : List Nat) (So : Hp) => So) (fun (k : Nat) (a : Option Addr) (c : Nat) (l : List Nat) (So : Hp) => re.length - k) 0 none 0 [] [] ⟨Nat.zero_le _, .nil, .nil⟩ sbA sbA hzB ?_
  rintro k a c l So ⟨hk, hO, hG⟩
  have hGl := hG.1
  have hgq : gcn (re.take k) ≤ re.length := Nat.le_trans List.countP_le_length (by rw [List.length_take]; omega)
  refine c_seq fun _ hK5 => ?_; refine c_seq fun _ hK6 => ?_; refine c_region ?_; refine o_step rfl (s_move rfl) ?_; refine o_step rfl (s_move rfl) ?_; refine o_step rfl (s_len rfl) ?_
  by_cases hkr : (k : Int) < re.length
  ·
   obtain ⟨x, hx⟩ : ∃ x, re[k]? = some x := ⟨_, List.getElem?_eq_getElem (by omega)⟩
   refine o_step rfl (step_cast (v' := .bool true) (s_lss rfl rfl) (by rw [decide_eq_true (by omega)])) ?_; refine o_nil ?_; refine x_then (hK6 _ _ ?_); refine c_true rfl ?_; refine c_skip ?_; refine x_then (hK5 _ _ ?_); refine c_seq fun _ hK7 => ?_; refine c_block ?_; refine c_seq fun _ hK8 => ?_; refine c_region ?_; refine o_step rfl (s_move rfl) ?_; refine o_step rfl (s_move rfl) ?_; refine o_step rfl (s_idx rfl rfl hsl (by omega)) ?_; refine o_step rfl (s_field rfl rfl (by decide)) ?_; refine o_step rfl (s_ld rfl ((RdK.old0 hw).ld k 0 hx rfl (by decide) (by omega))) ?_
   by_cases h7 : x.op = 7
   ·
    refine o_step rfl (step_cast (v' := .bool true) (s_eql rfl rfl) (by rw [decide_eq_true h7])) ?_; refine o_nil ?_; refine x_then (hK8 _ _ ?_); refine c_true rfl ?_; refine c_region ?_; refine o_step rfl (s_move rfl) ?_; refine o_step rfl (s_move rfl) ?_; refine o_bs (E := Eix) (xs := [k]) (vs := [_]) rfl rfl rfl rfl rfl (by decide) (by decide) fun b19 S19 hS19 => ?_; refine o_app hO (hS19.rdk hiA) rfl rfl rfl rfl (by simp only [List.length_singleton]; omega) (by simp only [List.length_singleton]; omega) rfl pkA fun a20 c20 S20 hS20 => ?_; refine o_step rfl (s_assign rfl) ?_; refine o_nil ?_; refine x_block ?_; refine x_then (hK7 _ _ ?_); refine c_region ?_; refine o_step rfl (s_move rfl) ?_; refine o_step rfl (s_add rfl rfl (by omega)) ?_; refine o_step rfl (s_assign rfl) ?_; refine o_nil ?_; exact x_then (x_inv (k + 1, a20, c20, l ++ [k], S20) ⟨by dsimp only; omega, hS20, hG.yes hx h7⟩ (by first | omega | (dsimp only; omega)) sbA hzB)
   ·
    refine o_step rfl (step_cast (v' := .bool false) (s_eql rfl rfl) (by rw [decide_eq_false h7])) ?_; refine o_nil ?_; refine x_then (hK8 _ _ ?_); refine c_false rfl ?_; refine c_skip ?_; refine x_block ?_; refine x_then (hK7 _ _ ?_); refine c_region ?_; refine o_step rfl (s_move rfl) ?_; refine o_step rfl (s_add rfl rfl (by omega)) ?_; refine o_step rfl (s_assign rfl) ?_; refine o_nil ?_; exact x_then (x_inv (k + 1, a, c, l, So) ⟨by dsimp only; omega, hO, hG.no hx h7⟩ (by first | omega | (dsimp only; omega)) sbA hzB)
  ·
   obtain rfl : k = re.length := by omega
   refine o_step rfl (step_cast (v' := .bool false) (s_lss rfl rfl) (by rw [decide_eq_false (by omega)])) ?_; refine o_nil ?_; refine x_then (hK6 _ _ ?_); refine c_false rfl ?_; refine c_exit ?_; refine x_then_exit ?_; refine x_then_exit ?_; refine x_block_exit ?_; refine x_then (hK3 _ _ ?_); refine c_seq fun _ hK9 => ?_; refine c_region ?_; refine o_step rfl (s_move rfl) ?_; refine o_step rfl (s_assign rfl) ?_; refine o_nil ?_; refine x_then (hK9 _ _ ?_); refine c_ret ?_; refine ?_; refine x_sub (Sub.refl _) (H' := So) hzB ?_; exact x_ret rfl (.tmp rfl (.nil)) (⟨a, c, l, rfl, hO, hG⟩)
end Go.Proofs.YtopmnmigpbdddaaGreatDoor

/- Rules for clear, copy and cap of slices. Conditions: none. -/
namespace Go.HL
open Go
theorem St.own_puts {P : Program} {α : Type} {E : α → List Value} {k : Nat} [he : Enc E k] {T : TypeId} {v : Value} {xs ys : List α} {S R : Hp} {w0 w : World} {M : List Nat} (ho : OwnS E k T v xs S) (st : St w0 w M (S ++ R)) (hl : ys.length = xs.length) (hne : xs ≠ []) :
    ∃ A n c, v = .slice (some A) n c ∧ ∃ w' S', (storeCells A (flat E ys) 0).run P w = .ok () w' ∧ OwnS E k T v ys S' ∧ St w0 w' M (S' ++ R) := by
  cases ho with
  | nil => exact absurd rfl hne
  | blk hc hn hm hz hf =>
    rename_i b c zs fr
    have hlen := flat_len E xs
    have hlen2 := flat_len E ys
    have hxc : xs.length * k ≤ c * k := Nat.mul_le_mul_right _ hn
    refine ⟨_, _, _, rfl, ?_⟩
    obtain ⟨w', hr, hh, hos, htp, hop⟩ := run_storeCells (P := P) (b := b) (T := T) (f := fr) (flat E ys) 0 0 (flat E xs ++ zs) w (st.has _ _ (List.mem_append_left _ List.mem_cons_self)) (by rw [List.length_append, hlen, hlen2, hl]; omega) (flat_one E ys) (fun j hj => frz_of hf (by rw [hlen2, hl] at hj; omega))
    have e2 : splice (flat E xs ++ zs) (0 + 0) (flat E ys) = flat E ys ++ zs := by
      simp only [splice, Nat.zero_add, List.take_zero, List.nil_append]
      rw [List.drop_left' (by rw [hlen, hlen2, hl])]
    refine ⟨w', [(b, .cells (splice (flat E xs ++ zs) (0 + 0) (flat E ys)).toArray T fr)], hr, ?_, St.put (R := R) st hh hos htp hop⟩
    rw [e2]
    have := OwnS.blk (E := E) (k := k) (T := T) (b := b) (c := c) (xs := ys) (zs := zs) (fr := fr) (by rw [List.length_append, hlen2, hl]; rw [List.length_append, hlen] at hc; exact hc) (by rw [hl]; exact hn) (by rw [hl]; exact hm) hz hf
    rw [hl] at this
    exact this
theorem zero_cells {α : Type} {E : α → List Value} {k : Nat} [he : Enc E k] {zv : Value} {zx : α} (hz : zv.cells.toList = E zx) (m : Nat) : (Builtin.zeroCells zv.cells m).toList = flat E (List.replicate m zx) := by
  have hk : zv.cells.size = k := by rw [← Array.length_toList, hz, he.len]
  apply List.ext_getElem?
  intro j
  simp only [Builtin.zeroCells, Array.toList_map, hk]
  by_cases hj : j < m * k
  · have hk0 : 0 < k := by
      rcases Nat.eq_zero_or_pos k with h | h
      · subst h; simp at hj
      · exact h
    have hq : j / k < m := (Nat.div_lt_iff_lt_mul hk0).2 hj
    have hr : j % k < k := Nat.mod_lt _ hk0
    have h2 := flat_get E (List.replicate m zx) (i := j / k) (x := zx) (by simp [hq]) hr
    rw [show j / k * k + j % k = j by rw [Nat.mul_comm]; exact Nat.div_add_mod j k] at h2
    rw [h2, ← hz]
    simp only [Array.toList_range, List.getElem?_map]
    rw [List.getElem?_range hj]
    simp only [Option.map_some]
    rw [getElem!_pos zv.cells _ (by rw [hk]; exact hr)]
    simp [hk, hr]
  · rw [List.getElem?_eq_none (by simp; omega), List.getElem?_eq_none (by rw [flat_len]; simp; omega)]
section
variable {P : Program} {κ : Cx} {Q : Pst} {L L' : Loc} {H H' : Hp} {ops : Array Oper} {rest : List Oper} {ty t t' : TypeId} {d : Nat} {pos : String} {af : Array Edge} {v u : Value} {x y z : Operand} {α : Type} {E : α → List Value} {k : Nat}
theorem Src.of_rdk [he : Enc E k] {ys : List α} {w : World} (h : RdK E κ H u ys) (st : St κ.w0 w κ.M H) : Src P w k u ys.length (flat E ys) := Src.of_rd (h.out w st)
theorem o_copy [he : Enc E k] {T by' : Nat} {xs ys : List α} {S R : Hp} [tu : TU P t (.slice T)] [ti : TI P T k by'] (ho : OwnS E k T v xs S) (hs : RdK E κ H u ys) (hl : ys.length = xs.length) (hx : ev L x = some v) (hy : ev L y = some u) (hpk : Pick H S R)
    (hn : Nat.blt d κ.n = true) (h : ∀ S', OwnS E k T v ys S' → O P κ ops Q rest ((d, .int .i64 (ys.length : Nat)) :: L) (S' ++ R)) : O P κ ops Q (⟨some d, .call ⟨.builtin .copy, #[x, y], #[t, t']⟩, ty, pos, af, none⟩ :: rest) L H := by
  refine ⟨fun ro a w hro ok => op_want rfl ?_⟩
  have e1 := ok.fr.ev hx
  have e2 := ok.fr.ev hy
  have hsrc := Src.of_rdk (P := P) hs ok.st
  by_cases hne : xs = []
  · subst hne
    have hy0 : ys = [] := List.eq_nil_of_length_eq_zero hl
    subst hy0
    obtain ⟨a0, c0, rfl, _⟩ := ho.sl.out
    have hlen := hsrc.len w
    have hcl := hsrc.cells w rfl
    simp only [List.length_nil, flat, List.flatMap_nil] at hlen hcl
    have : (execOp a.eval ⟨some d, .call ⟨.builtin .copy, #[x, y], #[t, t']⟩, ty, pos, af, none⟩).run P w = .ok (.value (.int .i64 0)) w := by
      cases a0 <;> simp [execOp, resolve, invoke, builtin, Builtin.copy_, e1, e2, run_u, run_size, hlen, hcl, storeCells, goInt]
    exact op_val this ((h S ho).out ro _ _ hro.tail ⟨ok.fr.put hn _, ok.st.perm hpk.perm⟩)
  · obtain ⟨A, n, c, hv, w', S', hr, ho', st'⟩ := St.own_puts (P := P) ho (ok.st.perm hpk.perm) hl hne
    obtain ⟨a0, c0, hv2, _⟩ := ho.sl.out
    subst hv
    simp only [Value.slice.injEq] at hv2
    obtain ⟨rfl, rfl, rfl⟩ := hv2
    have hlen := hsrc.len w
    have hcl := hsrc.cells w rfl
    have hmin : Nat.min ys.length xs.length = ys.length := by rw [hl]; exact Nat.min_self _
    have : (execOp a.eval ⟨some d, .call ⟨.builtin .copy, #[x, y], #[t, t']⟩, ty, pos, af, none⟩).run P w = .ok (.value (.int .i64 (ys.length : Nat))) w' := by
      simp [execOp, resolve, invoke, builtin, Builtin.copy_, e1, e2, run_u, run_size, hlen, hmin, hcl, hr, goInt]
    exact op_val this ((h S' ho').out ro _ _ hro.tail ⟨ok.fr.put hn _, st'⟩)
theorem o_clear [he : Enc E k] {T by' : Nat} {zv : Value} {zx : α} {xs : List α} {S R : Hp} [tu : TU P t (.slice T)] [_ti : TI P T k by'] [tz : TZ P T zv] (ho : OwnS E k T v xs S) (hz : zv.cells.toList = E zx) (hx : ev L x = some v) (hpk : Pick H S R)
    (h : ∀ S', OwnS E k T v (List.replicate xs.length zx) S' → O P κ ops Q rest L (S' ++ R)) : O P κ ops Q (⟨none, .call ⟨.builtin .clear, #[x], #[t]⟩, ty, pos, af, none⟩ :: rest) L H := by
  refine ⟨fun ro a w hro ok => op_want rfl ?_⟩
  have e1 := ok.fr.ev hx
  by_cases hne : xs = []
  · subst hne
    obtain ⟨a0, c0, rfl, _⟩ := ho.sl.out
    have : (execOp a.eval ⟨none, .call ⟨.builtin .clear, #[x], #[t]⟩, ty, pos, af, none⟩).run P w = .ok (.value (.tuple #[])) w := by
      cases a0 <;> simp [execOp, resolve, invoke, builtin, Builtin.clear_, e1, run_u]
    exact op_val this ((h S (by simpa using ho)).out ro _ _ hro.tail ⟨ok.fr, ok.st.perm hpk.perm⟩)
  · obtain ⟨A, n, c, hv, w', S', hr, ho', st'⟩ := St.own_puts (P := P) (ys := List.replicate xs.length zx) ho (ok.st.perm hpk.perm) (by simp) hne
    obtain ⟨a0, c0, hv2, _⟩ := ho.sl.out
    subst hv
    simp only [Value.slice.injEq] at hv2
    obtain ⟨rfl, rfl, rfl⟩ := hv2
    have hzc : (Builtin.zeroCells zv.cells xs.length).toList = flat E (List.replicate xs.length zx) := zero_cells hz _
    have hn0 : xs.length ≠ 0 := fun h => hne (List.eq_nil_of_length_eq_zero h)
    obtain ⟨n', hn'⟩ : ∃ n', xs.length = n' + 1 := ⟨xs.length - 1, by omega⟩
    have : (execOp a.eval ⟨none, .call ⟨.builtin .clear, #[x], #[t]⟩, ty, pos, af, none⟩).run P w = .ok (.value (.tuple #[])) w' := by
      rw [hn'] at hzc hr e1
      simp [execOp, resolve, invoke, builtin, Builtin.clear_, e1, run_u, run_zero, hzc, hr]
    exact op_val this ((h S' ho').out ro _ _ hro.tail ⟨ok.fr, st'⟩)
theorem s_cap {e : TypeId} {n c : Nat} {a : Option Addr} [TU P t (.slice e)] (hx : ev L x = some (.slice a n c)) : Step P κ (.call ⟨.builtin .cap, #[x], #[t]⟩) ty L H (.int .i64 c) :=
  ⟨fun ρ w d pos af g hρ _ => by simp [execOp, resolve, invoke, builtin, Builtin.cap_, hρ _ _ hx, run_u, goInt]⟩
theorem Fn.sub {f : FuncId} {args : List Value} {pre : World → Prop} {S : Hp} {post post' : Value → Hp → Prop} (h : Fn P f args pre S post) (hq : ∀ v S', post v S' → ∃ S2, HSub S' S2 ∧ post' v S2) : Fn P f args pre S post' :=
  ⟨h.enters, fun w hw hS => (h.calls w hw hS).mono fun e w' hpost => by
    obtain ⟨v, S', he, hv, hst⟩ := hpost.out
    obtain ⟨S2, h1, h2⟩ := hq _ _ hv
    exact ⟨v, S2, he, h2, hst.sub h1⟩⟩
end
end Go.HL

/- Rules for the assertion of an interface's value to a type that is no interface. Conditions: none. -/
namespace Go.HL
open Go
def noIf : TypeDesc → Bool
  | .interface _ => false
  | _ => true
section
variable {P : Program} {κ : Cx} {L : Loc} {H : Hp} {ty : TypeId} {v : Value} {x : Operand}
theorem s_tas_t {t xt : TypeId} (h : (P.underlying t).map noIf = some true) (hx : ev L x = some (.iface t v)) : Step P κ (.typeAssert x xt t true) ty L H (.tuple #[v, .bool true]) :=
  ⟨fun ρ w d pos af g hρ _ => by
    cases hu : P.underlying t with
    | none => simp [hu] at h
    | some D =>
      simp only [hu, Option.map_some, Option.some.injEq] at h
      cases D <;> first | (simp [noIf] at h; done) | simp [execOp, hρ _ _ hx, Instr.typeAssert, run_underlying hu]⟩
theorem s_tas_n {xt at_ : TypeId} {z : Value} [tz : TZ P at_ z] (h : (P.underlying at_).map noIf = some true) (hx : ev L x = some .nilIface) : Step P κ (.typeAssert x xt at_ true) ty L H (.tuple #[z, .bool false]) :=
  ⟨fun ρ w d pos af g hρ _ => by
    cases hu : P.underlying at_ with
    | none => simp [hu] at h
    | some D =>
      simp only [hu, Option.map_some, Option.some.injEq] at h
      cases D <;> first | (simp [noIf] at h; done) | simp [execOp, hρ _ _ hx, Instr.typeAssert, run_underlying hu, run_zero w]⟩
theorem s_neq_nilff {κ : Cx} {t t' : TypeId} {ps rs : Array TypeId} {vr : Bool} {x y : Operand} [TU P t (.func ps rs vr)] (hx : ev L x = some .nilFunc) (hy : ev L y = some .nilFunc) : Step P κ (.binOp .neq t x y t') ty L H (.bool false) := s_neq_via hx hy rfl (fun w => re_nilff w 9999)
end
end Go.HL

/- Part of the proofs over this seat: see the text that holds the theorem. Conditions: each theorem bears its own. -/
namespace Go.Proofs.YtopmnmigpbdddaaGreatDoor
open Go Go.HL Go.Proofs Go.HL.Kl Go.HL.Kl.Mc Go.HL.Kl.Mc.AskE
def RowP (N : Nat) (Pool : Hp) (s : Sl Sp) : Prop := s.xs.length = N ∧ IsSl s.v s.xs.length ∧ RdS Esp s.v s.xs Pool
theorem RowP.mono {N : Nat} {P P' : Hp} {s : Sl Sp} (h : RowP N P s) (hs : HIn P P') : RowP N P' s := ⟨h.1, h.2.1, h.2.2.mono hs⟩
def PoolR (zs : List (Sl Sp)) (N : Nat) (Pool : Hp) : Prop := ∀ s ∈ zs, RowP N Pool s
theorem PoolR.mono {zs : List (Sl Sp)} {N : Nat} {P P' : Hp} (h : PoolR zs N P) (hs : HIn P P') : PoolR zs N P' := fun s hm => (h s hm).mono hs
theorem PoolR.snoc {zs : List (Sl Sp)} {x : Sl Sp} {N : Nat} {P : Hp} (h : PoolR zs N P) (hx : RowP N P x) : PoolR (zs ++ [x]) N P := fun s hm => by
  rcases List.mem_append.1 hm with hm | hm
  · exact h s hm
  · obtain rfl := List.mem_singleton.1 hm
    exact hx
set_option maxHeartbeats 2000000 in
theorem more_fn (la : Option Addr) (lc : Nat) (zs : List (Sl Sp)) (SL Pool : Hp) (hS : OwnS Esl 1 31 (.slice la zs.length lc) zs SL) (N : Nat) (hz : PoolR zs N Pool) (x : Sl Sp) (hx : RowP N Pool x) (hzl : zs.length ≤ 1000000) (hN : N ≤ 1000000) : HL.Fn Tryz.prog 171 [.slice la zs.length lc, .slice x.a x.xs.length x.c] (fun _ => True) (SL ++ Pool) (fun v S' => ∃ a c zs' SL', v = .slice a zs'.length c ∧ S' = SL' ++ Pool ∧ OwnS Esl 1 31 (.slice a zs'.length c) zs' SL' ∧ PoolR zs' N Pool ∧ zs'.length ≤ zs.length + 1) := by
  refine fn_of Tryz.func171 rfl rfl rfl fun w0 hw => ?_
  have hsl := hS.sl
  have hx1 := hx.1
  refine c_seq fun _ hK1 => ?_; refine c_region ?_; refine o_step rfl (s_assign rfl) ?_; refine o_nil ?_; refine x_then (hK1 _ _ ?_); refine c_seq fun _ hK2 => ?_; refine c_seq fun _ hK3 => ?_; refine c_region ?_; refine o_step rfl (s_assign rfl) ?_; refine o_nil ?_; refine x_then (hK3 _ _ ?_); refine c_block ?_
  -- not carried: 4
  refine c_loopB (fun (i : Nat) => i ≤ zs.length) (fun (i : Nat) => [(5, .int .i64 i)]) [(0, _), (1, _)] (fun (i : Nat) => SL ++ Pool) (fun (i : Nat) => zs.length - i) 0 (Nat.zero_le _) sbA sbA hzB ?_
  rintro i hi
  refine c_seq fun _ hK4 => ?_; refine c_seq fun _ hK5 => ?_; refine c_region ?_; refine o_step rfl (s_move rfl) ?_; refine o_step rfl (s_move rfl) ?_; refine o_step rfl (s_len rfl) ?_
  by_cases hil : (i : Int) < zs.length
  ·
   obtain ⟨z, hzi⟩ : ∃ z, zs[i]? = some z := ⟨_, List.getElem?_eq_getElem (by omega)⟩
   have hzm := hz z (List.mem_of_getElem? hzi)
   have hz1 := hzm.1
   refine o_step rfl (step_cast (v' := .bool true) (s_lss rfl rfl) (by rw [decide_eq_true (by omega)])) ?_; refine o_nil ?_; refine x_then (hK5 _ _ ?_); refine c_true rfl ?_; refine c_skip ?_; refine x_then (hK4 _ _ ?_); refine c_seq fun _ hK6 => ?_; refine c_block ?_; refine c_seq fun _ hK7 => ?_; refine c_region ?_; refine o_step rfl (s_assign rfl) ?_; refine o_nil ?_; refine x_then (hK7 _ _ ?_); refine c_seq fun _ hK8 => ?_; refine c_seq fun _ hK9 => ?_; refine c_region ?_; refine o_step rfl (s_assign rfl) ?_; refine o_nil ?_; refine x_then (hK9 _ _ ?_); refine c_block ?_; refine c_loop2 (fun (k : Nat) (b : Bool) => k ≤ x.xs.length) (fun (k : Nat) (b : Bool) => [(7, .int .i64 k), (6, .bool b)]) [(0, _), (1, _), (5, _), (8, _), (9, _), (10, _), (11, _)] (fun (k : Nat) (b : Bool) => SL ++ Pool) (fun (k : Nat) (b : Bool) => x.xs.length - k) 0 true (Nat.zero_le _) sbA sbA hzB ?_
   rintro k b hk
   refine c_seq fun _ hK10 => ?_; refine c_seq fun _ hK11 => ?_; refine c_region ?_; refine o_step rfl (s_move rfl) ?_; refine o_step rfl (s_move rfl) ?_; refine o_step rfl (s_len rfl) ?_
   by_cases hkl : (k : Int) < x.xs.length
   ·
    obtain ⟨p, hp⟩ : ∃ p, z.xs[k]? = some p := ⟨_, List.getElem?_eq_getElem (by have := hzm.1; have := hx.1; omega)⟩
    obtain ⟨q, hq⟩ : ∃ q, x.xs[k]? = some q := ⟨_, List.getElem?_eq_getElem (by omega)⟩
    refine o_step rfl (step_cast (v' := .bool true) (s_lss rfl rfl) (by rw [decide_eq_true (by omega)])) ?_; refine o_nil ?_; refine x_then (hK11 _ _ ?_); refine c_true rfl ?_; refine c_skip ?_; refine x_then (hK10 _ _ ?_); refine c_seq fun _ hK12 => ?_; refine c_block ?_; refine c_drawE (SL ++ Pool) (fun i => false) ?_
    by_cases hb : b = true
    ·
     refine e_tk 0 rfl hzB (step_cast (v' := .bool true) (s_move rfl) (by rw [hb])) ?_; refine e_tk 1 rfl hzB (s_move rfl) ?_; refine e_tg 2 rfl hzB (s_move rfl) ?_; refine e_tg 3 rfl hzB (s_move rfl) ?_; refine e_tg 4 rfl hzB (s_idx rfl rfl hsl (by omega)) ?_; refine e_tg 5 rfl hzB (s_ld rfl ((hS.rdk hiA).ld i 0 hzi rfl (by decide) (by omega))) ?_; refine e_tg 6 rfl hzB (s_move rfl) ?_; refine e_tg 7 rfl hzB (s_idx rfl rfl hzm.2.1 (by omega)) ?_; refine e_tg 8 rfl hzB (s_ldB rfl ((hzm.2.2.rdk hiA).cels hp) lnA) ?_; refine e_tg 9 rfl hzB (s_move rfl) ?_; refine e_tg 10 rfl hzB (s_move rfl) ?_; refine e_tg 11 rfl hzB (s_idx rfl rfl hx.2.1 (by omega)) ?_; refine e_tg 12 rfl hzB (s_ldB rfl ((hx.2.2.rdk hiA).cels hq) lnA) ?_; refine e_tg 13 rfl hzB (s_eql_sp rfl rfl) ?_; refine e_tk 14 rfl hzB (s_pick_t rfl rfl) ?_; refine e_tk 15 rfl hzB (s_assign rfl) ?_; refine e_done (by kernel_rfl) ?_; refine x_block ?_
     refine x_then (hK12 _ _ ?_); refine c_region ?_; refine o_step rfl (s_move rfl) ?_; refine o_step rfl (s_add rfl rfl (by omega)) ?_; refine o_step rfl (s_assign rfl) ?_; refine o_nil ?_; exact x_then (x_inv (k + 1, _) (by dsimp only; omega) (by first | omega | (dsimp only; omega)) sbA hzB)
    ·
     refine e_tk 0 rfl hzB (step_cast (v' := .bool false) (s_move rfl) (by rw [Bool.eq_false_iff.2 hb])) ?_; refine e_tk 1 rfl hzB (s_move rfl) ?_; refine e_sk 2 rfl ?_; refine e_sk 3 rfl ?_; refine e_sk 4 rfl ?_; refine e_sk 5 rfl ?_; refine e_sk 6 rfl ?_; refine e_sk 7 rfl ?_; refine e_sk 8 rfl ?_; refine e_sk 9 rfl ?_; refine e_sk 10 rfl ?_; refine e_sk 11 rfl ?_; refine e_sk 12 rfl ?_; refine e_sk 13 rfl ?_; refine e_tk 14 rfl hzB (s_pick_f rfl rfl) ?_; refine e_tk 15 rfl hzB (s_assign rfl) ?_; refine e_done (by kernel_rfl) ?_; refine x_block ?_; refine x_then (hK12 _ _ ?_); refine c_region ?_; refine o_step rfl (s_move rfl) ?_; refine o_step rfl (s_add rfl rfl (by omega)) ?_; refine o_step rfl (s_assign rfl) ?_; refine o_nil ?_; exact x_then (x_inv (k + 1, _) (by dsimp only; omega) (by first | omega | (dsimp only; omega)) sbA hzB)
   ·
    refine o_step rfl (step_cast (v' := .bool false) (s_lss rfl rfl) (by rw [decide_eq_false (by omega)])) ?_; refine o_nil ?_; refine x_then (hK11 _ _ ?_); refine c_false rfl ?_; refine c_exit ?_; refine x_then_exit ?_; refine x_then_exit ?_; refine x_block_exit ?_; refine x_then (hK8 _ _ ?_); refine c_seq fun _ hK13 => ?_; refine c_region ?_
    by_cases hb2 : b = true
    ·
     refine o_step rfl (step_cast (v' := .bool true) (s_move rfl) (by rw [hb2])) ?_; refine o_nil ?_; refine x_then (hK13 _ _ ?_); refine c_true rfl ?_; refine c_seq fun _ hK14 => ?_; refine c_region ?_; refine o_step rfl (s_move rfl) ?_; refine o_step rfl (s_assign rfl) ?_; refine o_nil ?_; refine x_then (hK14 _ _ ?_); refine c_ret ?_; refine x_block_ret (x_then_ret (x_then_ret (x_block_ret (x_then_ret (?_)))))
     exact x_ret rfl (.tmp rfl (.nil)) (⟨la, lc, zs, SL, rfl, rfl, hS, hz, by omega⟩)
    ·
     refine o_step rfl (step_cast (v' := .bool false) (s_move rfl) (by rw [Bool.eq_false_iff.2 hb2])) ?_; refine o_nil ?_; refine x_then (hK13 _ _ ?_); refine c_false rfl ?_; refine c_skip ?_; refine x_block ?_; refine x_then (hK6 _ _ ?_); refine c_region ?_; refine o_step rfl (s_move rfl) ?_; refine o_step rfl (s_add rfl rfl (by omega)) ?_; refine o_step rfl (s_assign rfl) ?_; refine o_nil ?_; exact x_then (x_inv (i + 1) (by omega) (by first | omega | (dsimp only; omega)) sbA hzB)
  ·
   refine o_step rfl (step_cast (v' := .bool false) (s_lss rfl rfl) (by rw [decide_eq_false (by omega)])) ?_; refine o_nil ?_; refine x_then (hK5 _ _ ?_); refine c_false rfl ?_; refine c_exit ?_; refine x_then_exit ?_; refine x_then_exit ?_; refine x_block_exit ?_; refine x_then (hK2 _ _ ?_); refine c_seq fun _ hK15 => ?_; refine c_region ?_; refine o_step rfl (s_move rfl) ?_; refine o_step rfl (s_move rfl) ?_; refine o_bs (E := Esl) (xs := [x]) (vs := [_]) rfl rfl rfl rfl rfl (by decide) (by decide) fun b39 S39 hS39 => ?_; refine o_app hS (hS39.rdk hiA) rfl rfl rfl rfl (by simp; omega) (by simp; omega) rfl pkA fun a40 c40 S40 hS40 => ?_; refine o_step rfl (s_assign rfl) ?_; refine o_nil ?_; refine x_then (hK15 _ _ ?_); refine c_ret ?_; refine ?_; refine x_sub (Sub.refl _) (H' := S40 ++ Pool) hzB ?_; exact x_ret rfl (.tmp rfl (.nil)) (⟨a40, c40, zs ++ [x], S40, rfl, rfl, hS40, hz.snoc hx, by simp⟩)
end Go.Proofs.YtopmnmigpbdddaaGreatDoor

/- Part of the proofs over this seat: see the text that holds the theorem. Conditions: each theorem bears its own. -/
namespace Go.Proofs.YtopmnmigpbdddaaGreatDoor
open Go Go.HL Go.Proofs Go.HL.Kl Go.HL.Kl.Mc Go.HL.Kl.Mc.AskE
set_option maxHeartbeats 2000000 in
theorem emptied_fn (bF : Nat) (u1 u2 : Value) (ra : Option Addr) (rc : Nat) (re : List Nd) (hre : ∀ x ∈ re, -128 ≤ x.op ∧ x.op < 128) (hrl : re.length ≤ 1000000) (N : Nat) (hN : N ≤ 1000000) (hs1 : ∀ y ∈ re, y.op = 7 → 1 ≤ y.n ∧ y.n ≤ N) (xa : Option Addr) (xc : Nat) (xs : List Sp) (hx : xs.length = N) (a b : Nat) (hb : b ≤ re.length) : HL.Fn Tryz.prog 170 [pt bF, .slice xa xs.length xc, .int .i64 a, .int .i64 b] (fun W => RdP W bF 0 [.slice ra re.length rc, u1, u2] ∧ Rd En W (.slice ra re.length rc) re ∧ Rd Esp W (.slice xa xs.length xc) xs) [] (fun v S' => ∃ a c ys, v = .slice a N c ∧ ys.length = N ∧ OwnS Esp 2 40 (.slice a N c) ys S') := by
  refine fn_of Tryz.func170 rfl rfl rfl fun w0 hw => ?_
  have hsl := hw.2.1.sl
  have hbl := hsl.le
  have hxl := hw.2.2.sl
  refine c_seq fun _ hK1 => ?_; refine c_region ?_; refine o_step rfl (s_assign rfl) ?_; refine o_nil ?_; refine x_then (hK1 _ _ ?_); refine c_seq fun _ hK2 => ?_; refine c_region ?_; refine o_step rfl (s_assign rfl) ?_; refine o_nil ?_; refine x_then (hK2 _ _ ?_); refine c_seq fun _ hK3 => ?_; refine c_region ?_; refine o_step rfl (s_move rfl) ?_; refine o_step rfl (s_move rfl) ?_; refine o_app (OwnS.nil : OwnS Esp 2 40 (.slice none 0 0) [] []) (RdK.old0 hw.2.2) rfl rfl rfl rfl (by simp; omega) (by simp; omega) rfl pkA fun a13 c13 S13 hS13 => ?_
  rw [List.nil_append] at hS13
  rw [List.nil_append, hx]
  rw [hx] at hS13
  refine o_step rfl (s_assign rfl) ?_; refine o_nil ?_; refine x_then (hK3 _ _ ?_); refine c_seq fun _ hK4 => ?_; refine c_seq fun _ hK5 => ?_; refine c_region ?_; refine o_step rfl (s_move rfl) ?_; refine o_step rfl (s_assign rfl) ?_; refine o_nil ?_; refine x_then (hK5 _ _ ?_); refine c_block ?_; refine c_loop3 (fun (j : Nat) (ys : List Sp) (S : Hp) => ys.length = N ∧ (j ≤ b ∨ j ≤ a) ∧ OwnS Esp 2 40 (.slice a13 N c13) ys S) (fun (j : Nat) (ys : List Sp) (S : Hp) => [(10, .int .i64 j)]) [(0, _), (3, _), (8, _), (9, _)] (fun (j : Nat) (ys : List Sp) (S : Hp) => S) (fun (j : Nat) (ys : List Sp) (S : Hp) => b - j) a xs S13 ⟨hx, .inr (Nat.le_refl _), hS13⟩ sbA sbA hzB ?_
  rintro j ys S ⟨hyl, hjb, hS⟩
  have hys := hS.sl
  rw [hyl] at hys
  refine c_seq fun _ hK6 => ?_; refine c_seq fun _ hK7 => ?_; refine c_region ?_; refine o_step rfl (s_move rfl) ?_; refine o_step rfl (s_move rfl) ?_
  by_cases hjl : (j : Int) < b
  ·
   obtain ⟨y, hj⟩ : ∃ y, re[j]? = some y := ⟨_, List.getElem?_eq_getElem (by omega)⟩
   have hym := List.mem_of_getElem? hj
   have hyo := hre y hym
   refine o_step rfl (step_cast (v' := .bool true) (s_lss rfl rfl) (by rw [decide_eq_true (by omega)])) ?_; refine o_nil ?_; refine x_then (hK7 _ _ ?_); refine c_true rfl ?_; refine c_skip ?_; refine x_then (hK6 _ _ ?_); refine c_seq fun _ hK8 => ?_; refine c_block ?_; refine c_seq fun _ hK9 => ?_; refine c_region ?_; refine o_step rfl (s_move rfl) ?_; refine o_step rfl (s_nil rfl) ?_; refine o_step rfl (s_field rfl rfl (by decide)) ?_; refine o_step rfl (s_ld rfl ((RdPK.old0 hw.1).cel (j := 0) rfl rfl)) ?_; refine o_step rfl (s_move rfl) ?_; refine o_step rfl (s_idx rfl rfl hsl (by omega)) ?_; refine o_step rfl (s_field rfl rfl (by decide)) ?_; refine o_step rfl (s_ld rfl ((RdK.old0 hw.2.1).ld j 0 hj rfl (by decide) (by omega))) ?_; refine o_step rfl (s_convI rfl (by omega)) ?_
   by_cases h7 : y.op = 7
   ·
    obtain ⟨hn1, hn2⟩ := hs1 y hym h7
    obtain ⟨g, hg⟩ : ∃ g : Nat, y.n = g + 1 := ⟨(y.n - 1).toNat, by omega⟩
    refine o_step rfl (step_cast (v' := .bool true) (s_eql rfl rfl) (by rw [decide_eq_true h7])) ?_; refine o_nil ?_; refine x_then (hK9 _ _ ?_); refine c_true rfl ?_; refine c_region ?_; refine o_step rfl (s_move rfl) ?_; refine o_step rfl (s_move rfl) ?_; refine o_step rfl (s_nil rfl) ?_; refine o_step rfl (s_field rfl rfl (by decide)) ?_; refine o_step rfl (s_ld rfl ((RdPK.old0 hw.1).cel (j := 0) rfl rfl)) ?_; refine o_step rfl (s_move rfl) ?_; refine o_step rfl (s_idx rfl rfl hsl (by omega)) ?_; refine o_step rfl (s_field rfl rfl (by decide)) ?_; refine o_step rfl (step_cast (v' := .int .i64 ((g : Int) + 1)) (s_ld rfl ((RdK.old0 hw.2.1).ld j 5 hj rfl (by decide) (by omega))) (by rw [hg])) ?_; refine o_step rfl (step_cast (v' := .int .i64 (g : Int)) (s_sub rfl rfl (by omega)) (congrArg _ (by omega))) ?_; refine o_step rfl (s_build (cs := [_, _]) (vs := [_, _]) rfl rfl (.cons rfl rfl rfl rfl rfl (.cons rfl rfl rfl rfl rfl (.nil)))) ?_
    refine o_step rfl (s_idx rfl rfl hys (by omega)) ?_; refine o_stSE g noS hS pkA rfl rfl (by omega) (by rfl) fun S' hS' => ?_; refine o_nil ?_; refine x_block ?_; refine x_then (hK8 _ _ ?_); refine c_region ?_; refine o_step rfl (s_move rfl) ?_; refine o_step rfl (s_add rfl rfl (by omega)) ?_; refine o_step rfl (s_assign rfl) ?_; refine o_nil ?_; exact x_then (x_inv (j + 1, _, _) ⟨by dsimp only; rw [List.length_set]; exact hyl, by dsimp only; omega, hS'⟩ (by first | omega | (dsimp only; omega)) sbA hzB)
   ·
    refine o_step rfl (step_cast (v' := .bool false) (s_eql rfl rfl) (by rw [decide_eq_false h7])) ?_; refine o_nil ?_; refine x_then (hK9 _ _ ?_); refine c_false rfl ?_; refine c_skip ?_; refine x_block ?_; refine x_then (hK8 _ _ ?_); refine c_region ?_; refine o_step rfl (s_move rfl) ?_; refine o_step rfl (s_add rfl rfl (by omega)) ?_; refine o_step rfl (s_assign rfl) ?_; refine o_nil ?_; exact x_then (x_inv (j + 1, _, _) ⟨hyl, by dsimp only; omega, hS⟩ (by first | omega | (dsimp only; omega)) sbA hzB)
  ·
   refine o_step rfl (step_cast (v' := .bool false) (s_lss rfl rfl) (by rw [decide_eq_false (by omega)])) ?_; refine o_nil ?_; refine x_then (hK7 _ _ ?_); refine c_false rfl ?_; refine c_exit ?_; refine x_then_exit ?_; refine x_then_exit ?_; refine x_block_exit ?_; refine x_then (hK4 _ _ ?_); refine c_seq fun _ hK10 => ?_; refine c_region ?_; refine o_step rfl (s_move rfl) ?_; refine o_step rfl (s_assign rfl) ?_; refine o_nil ?_; refine x_then (hK10 _ _ ?_); refine c_ret ?_; refine ?_; refine x_sub (Sub.refl _) (H' := S) hzB ?_; exact x_ret rfl (.tmp rfl (.nil)) (⟨a13, c13, ys, rfl, hyl, hS⟩)
end Go.Proofs.YtopmnmigpbdddaaGreatDoor

/- Part of the proofs over this seat: see the text that holds the theorem. Conditions: each theorem bears its own. -/
namespace Go.Proofs.YtopmnmigpbdddaaGreatDoor
open Go Go.HL Go.Proofs Go.HL.Kl Go.HL.Kl.Mc Go.HL.Kl.Mc.AskE
set_option maxHeartbeats 2000000 in
theorem tAll_fn (bT : Nat) (ra : Option Addr) (rc : Nat) (re : List Nd) (n : Int) (ha : Option Addr) (hc : Nat) (hl : List Nat) (left : Int) (la : Option Addr) (lc : Nat) (zs : List (Sl Sp)) (SL : Hp) (hS : OwnS Esl 1 31 (.slice la zs.length lc) zs SL) (ka : Option Addr) (kc : Nat) (ms : List (Sl Sp)) (SM Pool : Hp) (hM : OwnS Esl 1 31 (.slice ka ms.length kc) ms SM) (N : Nat) (hz : PoolR zs N Pool) (hm : PoolR ms N Pool) (hN : N ≤ 1000000) (hK : (zs.length : Int) + left ≤ 600000) (hlo : -700000 ≤ left) (hml : ms.length ≤ 3000000) (hzl : zs.length ≤ 3000000) : HL.Fn Tryz.prog 194 [pt bT, .slice la zs.length lc, .slice ka ms.length kc] (fun _ => True) ((bT, .cells [.slice ra re.length rc, .int .i64 n, .slice ha hl.length hc, .int .i64 left].toArray 255 (0, 0)) :: (SL ++ (SM ++ Pool))) (fun v S' => ∃ a c zs' SL' left', v = .slice a zs'.length c ∧ S' = (bT, .cells [.slice ra re.length rc, .int .i64 n, .slice ha hl.length hc, .int .i64 left'].toArray 255 (0, 0)) :: (SL' ++ (SM ++ Pool)) ∧ OwnS Esl 1 31 (.slice a zs'.length c) zs' SL' ∧ PoolR zs' N Pool ∧ (zs'.length : Int) + left' ≤ zs.length + left ∧ left' ≤ left ∧ -700000 ≤ left') := by
  refine fn_of Tryz.func194 rfl rfl rfl fun w0 hw => ?_
  have hsl := hM.sl
  refine c_seq fun _ hK1 => ?_; refine c_region ?_; refine o_step rfl (s_assign rfl) ?_; refine o_nil ?_; refine x_then (hK1 _ _ ?_); refine c_seq fun _ hK2 => ?_; refine c_seq fun _ hK3 => ?_; refine c_region ?_; refine o_step rfl (s_assign rfl) ?_; refine o_nil ?_; refine x_then (hK3 _ _ ?_); refine c_block ?_; refine c_loop6 (fun (i : Nat) (a : Option Addr) (c : Nat) (ys : List (Sl Sp)) (S : Hp) (lf : Int) => i ≤ ms.length ∧ OwnS Esl 1 31 (.slice a ys.length c) ys S ∧ PoolR ys N Pool ∧ (ys.length : Int) + lf ≤ zs.length + left ∧ lf ≤ left ∧ -700000 ≤ lf) (fun (i : Nat) (a : Option Addr) (c : Nat) (ys : List (Sl Sp)) (S : Hp) (lf : Int) => [(7, .int .i64 i), (1, .slice a ys.length c)]) [(0, _), (2, _), (6, _)] (fun (i : Nat) (a : Option Addr) (c : Nat) (ys : List (Sl Sp)) (S : Hp) (lf : Int) => (bT, .cells [.slice ra re.length rc, .int .i64 n, .slice ha hl.length hc, .int .i64 lf].toArray 255 (0, 0)) :: (S ++ (SM ++ Pool))) (fun (i : Nat) (a : Option Addr) (c : Nat) (ys : List (Sl Sp)) (S : Hp) (lf : Int) => ms.length - i) 0 la lc zs SL left ⟨Nat.zero_le _, hS, hz, Int.le_refl _, Int.le_refl _, hlo⟩ sbA sbA hzB ?_
  rintro i a c ys S lf ⟨hi, hy, hyz, hyk, hlf, hlo2⟩
  refine c_seq fun _ hK4 => ?_; refine c_seq fun _ hK5 => ?_; refine c_region ?_; refine o_step rfl (s_move rfl) ?_; refine o_step rfl (s_move rfl) ?_; refine o_step rfl (s_len rfl) ?_
  by_cases hil : (i : Int) < ms.length
  ·
   obtain ⟨z, hzi⟩ : ∃ z, ms[i]? = some z := ⟨_, List.getElem?_eq_getElem (by omega)⟩
   have hzm := hm z (List.mem_of_getElem? hzi)
   refine o_step rfl (step_cast (v' := .bool true) (s_lss rfl rfl) (by rw [decide_eq_true (by omega)])) ?_; refine o_step rfl (s_move rfl) ?_; refine o_yes rfl rfl ?_; refine o_step rfl (s_move rfl) ?_; refine o_yes rfl rfl ?_; refine o_step rfl (s_nil rfl) ?_; refine o_yes rfl rfl ?_; refine o_step rfl (s_field rfl rfl (by decide)) ?_; refine o_yes rfl rfl ?_; refine o_step rfl (s_ld rfl (.own meA rfl)) ?_; refine o_yes rfl rfl ?_
   by_cases hlf0 : lf ≥ 0
   ·
    refine o_step rfl (step_cast (v' := .bool true) (s_geq rfl rfl) (by rw [decide_eq_true (by omega)])) ?_; refine o_step rfl (s_pick_t rfl rfl) ?_; refine o_nil ?_; refine x_then (hK5 _ _ ?_); refine c_true rfl ?_; refine c_skip ?_; refine x_then (hK4 _ _ ?_); refine c_seq fun _ hK6 => ?_; refine c_block ?_; refine c_seq fun _ hK7 => ?_; refine c_region ?_; refine o_step rfl (s_move rfl) ?_; refine o_step rfl (s_move rfl) ?_; refine o_step rfl (s_nil rfl) ?_; refine o_step rfl (s_field rfl rfl (by decide)) ?_; refine o_step rfl (s_ld rfl (.own meA rfl)) ?_; refine o_step rfl (s_sub rfl rfl (by omega)) ?_; refine o_step rfl (s_move rfl) ?_; refine o_step rfl (s_len rfl) ?_; refine o_step rfl (s_sub rfl rfl (by omega)) ?_; refine o_step rfl (s_nil rfl) ?_; refine o_step rfl (s_field rfl rfl (by decide)) ?_; refine o_store rfl rfl rfl upA ltA rfl ?_; refine o_nil ?_; refine x_then (hK7 _ _ ?_)
    refine c_region ?_; refine o_step rfl (s_move rfl) ?_; refine o_step rfl (s_move rfl) ?_; refine o_step rfl (s_move rfl) ?_; refine o_step rfl (s_idx rfl rfl hsl (by omega)) ?_; refine o_step rfl (s_ld rfl ((hM.rdk hiA).ld i 0 hzi rfl (by decide) (by omega))) ?_; refine o_call (more_fn a c ys S Pool hy N hyz z hzm (by omega) hN) rfl rfl rfl ((Pick.takeA pkA pkA)) (fun _ _ => trivial) (fun v37 S37 ⟨a37, c37, ys37, SL37, hv37, hS37, hO37, hP37, hl37⟩ => ?_); subst hv37
    subst hS37; refine o_step rfl (s_assign rfl) ?_; refine o_nil ?_; refine x_block ?_; refine x_then (hK6 _ _ ?_); refine c_region ?_; refine o_step rfl (s_move rfl) ?_; refine o_step rfl (s_add rfl rfl (by omega)) ?_; refine o_step rfl (s_assign rfl) ?_; refine o_nil ?_; exact x_then (x_inv (i + 1, a37, c37, ys37, SL37, lf - 1 - (ys.length : Int)) ⟨by dsimp only; omega, hO37, hP37, by dsimp only; omega, by dsimp only; omega, by dsimp only; omega⟩ (by first | omega | (dsimp only; omega)) sbA hzB)
   ·
    refine o_step rfl (step_cast (v' := .bool false) (s_geq rfl rfl) (by rw [decide_eq_false (by omega)])) ?_; refine o_step rfl (s_pick_t rfl rfl) ?_; refine o_nil ?_; refine x_then (hK5 _ _ ?_); refine c_false rfl ?_; refine c_exit ?_; refine x_then_exit ?_; refine x_then_exit ?_; refine x_block_exit ?_; refine x_then (hK2 _ _ ?_); refine c_seq fun _ hK8 => ?_; refine c_region ?_; refine o_step rfl (s_move rfl) ?_; refine o_step rfl (s_assign rfl) ?_; refine o_nil ?_; refine x_then (hK8 _ _ ?_); refine c_ret ?_; refine ?_; refine x_sub (Sub.refl _) (H' := (bT, .cells [.slice ra re.length rc, .int .i64 n, .slice ha hl.length hc, .int .i64 lf].toArray 255 (0, 0)) :: (S ++ (SM ++ Pool))) hzB ?_; exact x_ret rfl (.tmp rfl (.nil)) (⟨a, c, ys, S, lf, rfl, rfl, hy, hyz, hyk, hlf, hlo2⟩)
  ·
   refine o_step rfl (step_cast (v' := .bool false) (s_lss rfl rfl) (by rw [decide_eq_false (by omega)])) ?_; refine o_step rfl (s_move rfl) ?_; refine o_no rfl rfl rfl rfl ?_; refine o_no rfl rfl rfl rfl ?_; refine o_no rfl rfl rfl rfl ?_; refine o_no rfl rfl rfl rfl ?_; refine o_no rfl rfl rfl rfl ?_; refine o_step rfl (s_pick_f rfl rfl) ?_; refine o_nil ?_; refine x_then (hK5 _ _ ?_); refine c_false rfl ?_; refine c_exit ?_; refine x_then_exit ?_; refine x_then_exit ?_; refine x_block_exit ?_; refine x_then (hK2 _ _ ?_); refine c_seq fun _ hK9 => ?_; refine c_region ?_; refine o_step rfl (s_move rfl) ?_; refine o_step rfl (s_assign rfl) ?_; refine o_nil ?_; refine x_then (hK9 _ _ ?_); refine c_ret ?_; refine ?_; refine x_sub (Sub.refl _) (H' := (bT, .cells [.slice ra re.length rc, .int .i64 n, .slice ha hl.length hc, .int .i64 lf].toArray 255 (0, 0)) :: (S ++ (SM ++ Pool))) hzB ?_; exact x_ret rfl (.tmp rfl (.nil)) (⟨a, c, ys, S, lf, rfl, rfl, hy, hyz, hyk, hlf, hlo2⟩)
end Go.Proofs.YtopmnmigpbdddaaGreatDoor

/- Part of the proofs over this seat: see the text that holds the theorem. Conditions: each theorem bears its own. -/
namespace Go.Proofs.YtopmnmigpbdddaaGreatDoor
open Go Go.HL Go.Proofs Go.HL.Kl Go.HL.Kl.Mc Go.HL.Kl.Mc.AskE
set_option maxHeartbeats 1000000 in
theorem tEmptiedO_fn (bT : Nat) (us : List Value) (ra : Option Addr) (rc : Nat) (re : List Nd) (hre : ∀ x ∈ re, -128 ≤ x.op ∧ x.op < 128) (hrl : re.length ≤ 1000000) (N : Nat) (hN : N ≤ 1000000) (hs1 : ∀ y ∈ re, y.op = 7 → 1 ≤ y.n ∧ y.n ≤ N) (xa : Option Addr) (xc : Nat) (xs : List Sp) (hx : xs.length = N) (a b : Nat) (hb : b ≤ re.length) : HL.Fn Tryz.prog 196 [pt bT, .slice xa xs.length xc, .int .i64 a, .int .i64 b] (fun W => RdP W bT 0 (.slice ra re.length rc :: us) ∧ Rd En W (.slice ra re.length rc) re ∧ Rd Esp W (.slice xa xs.length xc) xs) [] (fun v S' => ∃ S2, HSub S' S2 ∧ ∃ a c ys, v = .slice a N c ∧ ys.length = N ∧ OwnS Esp 2 40 (.slice a N c) ys S2) := by
  refine fn_of Tryz.func196 rfl rfl rfl fun w0 hw => ?_
  have hsl := hw.2.1.sl
  have hbl := hsl.le
  refine c_seq fun _ hK1 => ?_; refine c_region ?_; refine o_step rfl (s_assign rfl) ?_; refine o_nil ?_; refine x_then (hK1 _ _ ?_); refine c_seq fun _ hK2 => ?_; refine c_region ?_; refine o_step rfl (s_move rfl) ?_; refine o_step rfl (s_nil rfl) ?_; refine o_step rfl (s_field rfl rfl (by decide)) ?_; refine o_step rfl (s_ld rfl ((RdPK.old0 hw.1).cel (j := 0) rfl rfl)) ?_; refine o_step rfl (s_build (cs := [_, _, _]) (vs := [_]) rfl rfl (.cons rfl rfl rfl rfl rfl (.nil))) ?_; refine o_box rfl rfl rfl fun b15 => ?_; refine o_step rfl (s_assign rfl) ?_; refine o_nil ?_; refine x_then (hK2 _ _ ?_); refine c_seq fun _ hK3 => ?_; refine c_region ?_; refine o_step rfl (s_move rfl) ?_; refine o_step rfl (s_move rfl) ?_; refine o_step rfl (s_move rfl) ?_; refine o_step rfl (s_move rfl) ?_; refine o_call (emptied_fn b15 _ _ ra rc re hre hrl N hN hs1 xa xc xs hx a b hb) rfl rfl rfl (by exact .nil) (fun _ st => ⟨(RdPK.own meA).out _ st, (RdK.old0 hw.2.1).out _ st, (RdK.old0 hw.2.2).out _ st⟩) (fun v20 S20 ⟨a20, c20, ys, hv20, hyl, hO20⟩ => ?_)
  subst hv20; refine o_step rfl (s_assign rfl) ?_; refine o_nil ?_; refine x_then (hK3 _ _ ?_); refine c_ret ?_; refine ?_; exact x_ret rfl (.tmp rfl (.nil)) (⟨S20, hzB, a20, c20, ys, rfl, hyl, hO20⟩)

theorem tEmptied_fn (bT : Nat) (us : List Value) (ra : Option Addr) (rc : Nat) (re : List Nd) (hre : ∀ x ∈ re, -128 ≤ x.op ∧ x.op < 128) (hrl : re.length ≤ 1000000) (N : Nat) (hN : N ≤ 1000000) (hs1 : ∀ y ∈ re, y.op = 7 → 1 ≤ y.n ∧ y.n ≤ N) (xa : Option Addr) (xc : Nat) (xs : List Sp) (hx : xs.length = N) (a b : Nat) (hb : b ≤ re.length) : HL.Fn Tryz.prog 196 [pt bT, .slice xa xs.length xc, .int .i64 a, .int .i64 b] (fun W => RdP W bT 0 (.slice ra re.length rc :: us) ∧ Rd En W (.slice ra re.length rc) re ∧ Rd Esp W (.slice xa xs.length xc) xs) [] (fun v S' => ∃ a c ys, v = .slice a N c ∧ ys.length = N ∧ OwnS Esp 2 40 (.slice a N c) ys S') :=
  Fn.sub (tEmptiedO_fn bT us ra rc re hre hrl N hN hs1 xa xc xs hx a b hb) fun v S' ⟨S2, h1, h2⟩ => ⟨S2, h1, h2⟩
end Go.Proofs.YtopmnmigpbdddaaGreatDoor
