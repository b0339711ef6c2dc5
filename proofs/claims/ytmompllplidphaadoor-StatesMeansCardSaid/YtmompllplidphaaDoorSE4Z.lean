/- Part of the proofs over this seat: see the text that holds the theorem. Conditions: each theorem bears its own. -/
import Derived.Test.YtmompllplidphaaDoorSM22Z
import Derived.Test.YtmompllplidphaaDoorSM1Z
import Derived.Test.YtmompllplidphaaDoorSN1
import Derived.Test.YtmompllplidphaaDoorSN5Z
namespace Go.Proofs.YtmompllplidphaaDoor
open Go Go.HL Go.Proofs Go.HL.Kl Go.HL.Kl.Mc Go.HL.Kl.Mc.AskE
theorem rounds_fixed2 {N k : Nat} {x : Nd} {D : Nat → Nat → Prop} {S : Nat → Prop} (h0 : 0 ≤ x.mn) (hkx : x.mx = -1 ∨ (k : Int) ≤ x.mx) (hk : x.mn.toNat ≤ k) (hS : ∀ p, S p → p ≤ N) (hD : Inn N D) (h : ∀ q, q ≤ N → img (pow D (k + 1)) S q → upTo D S x.mn.toNat k q) (q : Nat) : upTo D S x.mn.toNat k q ↔ img (rounds x D) S q := by
  rw [img_rounds h0]
  constructor
  · rintro ⟨j, h1, h2, h3⟩; exact ⟨j, h1, hkx.imp id fun h => by omega, h3⟩
  · rintro ⟨j, h1, _, h3⟩; exact upTo_fix hS hD hk h q ⟨j, h1, h3⟩
set_option maxHeartbeats 4000000 in
theorem rounds_fnM (K : MeE) (hK : K.ok) (x y : Nd) (js : F) (hSt : K.StepT y js) (at_ i1 : Nat) (h6 : x.op = 6) (hp : Part K.re (.nd x (.nd y js .nil) .nil) at_ i1) (fa : Option Addr) (fc : Nat) (fr : List Bool) (Sh : Hp) (S : Nat → Prop) (hOf : OwnS Ebo 1 4 (.slice fa fr.length fc) fr Sh) (hS : IsS fr K.w.length S) (hSb : ∀ p, S p → p ≤ K.w.length) (σ0 : MeS) (hI0 : K.Inv σ0) : HL.Fn Tryd.prog 99 [pt K.bM, .int .i64 at_, .slice fa fr.length fc] (fun W => K.Env W ((K.bM, .cells [.slice K.ra K.re.length K.rc, .slice K.ta K.w.length K.tc, .slice K.ma K.sls.length K.mc, .slice σ0.sa σ0.ss.length σ0.sc].toArray 106 (0, 0)) :: (Sh ++ (σ0.SR ++ (σ0.SS ++ σ0.Pool))))) ((K.bM, .cells [.slice K.ra K.re.length K.rc, .slice K.ta K.w.length K.tc, .slice K.ma K.sls.length K.mc, .slice σ0.sa σ0.ss.length σ0.sc].toArray 106 (0, 0)) :: (Sh ++ (σ0.SR ++ (σ0.SS ++ σ0.Pool)))) (K.OutQ (at_ + 1) i1 (img (rounds x (der1 K.w y js)) S) σ0) := by
  refine fn_of Tryd.func99 rfl rfl rfl fun w0 hw => ?_
  have hwl := hK.wl
  have hrl := hK.rl
  have hres := hw.d1.sl
  have hfl := hS.len
  have hple := hp.le
  have hpl := hp.len
  obtain ⟨hx, hpk, _⟩ := hp.head
  have hxz : (F.nd y js .nil).size = 1 + js.size := by simp only [F.size]; omega
  have hxy : (F.nd x (F.nd y js .nil) .nil).size = 2 + js.size := by simp only [F.size]; omega
  have hat := (List.getElem?_eq_some_iff.1 hx).1
  have hrf := rep_flds hp.wf.1 h6
  have hD : Inn K.w.length (der1 K.w y js) := der1_inn
  refine c_seq fun _ hK1 => ?_
  refine c_region ?_
  refine o_step rfl (s_assign rfl) ?_
  refine o_nil ?_
  refine x_then (hK1 _ _ ?_)
  refine c_seq fun _ hK2 => ?_
  refine c_region ?_
  refine o_step rfl (s_move rfl) ?_
  refine o_step rfl (s_nil rfl) ?_
  refine o_step rfl (s_field rfl rfl (by decide)) ?_
  refine o_step rfl (s_ld rfl (.own meA rfl)) ?_
  refine o_step rfl (s_move rfl) ?_
  refine o_step rfl (s_idx rfl rfl hres (by omega)) ?_
  refine o_step rfl (s_ldB rfl ((RdK.old hw.d1 hw.a1).lds at_ hx rfl) (by rfl)) ?_
  refine o_alloc (l := En zN) (by rw [En_zero]; rfl) rfl fun b7 => ?_
  refine o_stW rfl rfl upA lnA lnA onA ?_
  refine o_nil ?_
  refine x_then (hK2 _ _ ?_)
  refine c_seq fun _ hK3 => ?_
  refine c_seq fun _ hK4 => ?_
  refine c_region ?_
  refine o_step rfl (s_assign rfl) ?_
  refine o_nil ?_
  refine x_then (hK4 _ _ ?_)
  refine c_block ?_
  refine c_loop6 (fun (j : Nat) (ga : Option Addr) (gc : Nat) (g : List Bool) (Sg : Hp) (σ : MeS) => (j : Int) ≤ x.mn ∧ OwnS Ebo 1 4 (.slice ga g.length gc) g Sg ∧ IsS g K.w.length (img (pow (der1 K.w y js) j) S) ∧ K.Ext (at_ + 1) i1 σ0 σ) (fun (j : Nat) (ga : Option Addr) (gc : Nat) (g : List Bool) (Sg : Hp) (σ : MeS) => [(8, .int .i64 j), (2, .slice ga g.length gc)]) [(0, _), (1, _), (6, _), (7, _)] (fun (j : Nat) (ga : Option Addr) (gc : Nat) (g : List Bool) (Sg : Hp) (σ : MeS) => (b7, .cells (En x).toArray 57 (0, 0)) :: (K.bM, .cells [.slice K.ra K.re.length K.rc, .slice K.ta K.w.length K.tc, .slice K.ma K.sls.length K.mc, .slice σ.sa σ.ss.length σ.sc].toArray 106 (0, 0)) :: (Sg ++ (σ.SR ++ (σ.SS ++ σ.Pool)))) (fun (j : Nat) (ga : Option Addr) (gc : Nat) (g : List Bool) (Sg : Hp) (σ : MeS) => x.mn.toNat - j) 0 fa fc fr Sh σ0 ⟨by omega, hOf, hS.iff fun q _ => img_zero.symm, .refl hI0⟩ sbA sbA hzB ?_
  rintro j ga gc g Sg σ ⟨hj, hOg, hIg, hX⟩
  have hlg := hIg.len
  refine c_seq fun _ hK5 => ?_
  refine c_seq fun _ hK6 => ?_
  refine c_region ?_
  refine o_step rfl (s_move rfl) ?_
  refine o_step rfl (s_field rfl rfl (by decide)) ?_
  refine o_step rfl (s_ld rfl (.own meA rfl)) ?_
  by_cases hjm : (j : Int) < x.mn
  ·
   refine o_step rfl (step_cast (v' := .bool true) (s_lss rfl rfl) (by rw [decide_eq_true (by omega)])) ?_
   refine o_nil ?_
   refine x_then (hK6 _ _ ?_)
   refine c_true rfl ?_
   refine c_skip ?_
   refine x_then (hK5 _ _ ?_)
   refine c_seq fun _ hK7 => ?_
   refine c_block ?_
   refine c_region ?_
   refine o_step rfl (s_move rfl) ?_
   refine o_step rfl (s_move rfl) ?_
   refine o_step rfl (s_add rfl rfl (by omega)) ?_
   refine o_step rfl (s_move rfl) ?_
   refine o_call (hSt (at_ + 1) _ hpk ga gc g _ hIg σ hX.inv) rfl rfl rfl ((Pick.takeC pkA (Pick.takeA pkA pkA))) (fun _ st => ⟨⟨(RdK.old hw.d1 hw.a1).out _ st, St.apart_M st (by exact hiB) hw.d1 hw.a1 (by decide), (RdK.old hw.d2 hw.a2).out _ st, St.apart_M st (by exact hiB) hw.d2 hw.a2 (by decide), (RdK.old hw.d3 hw.a3).out _ st, St.apart_M st (by exact hiB) hw.d3 hw.a3 (by decide)⟩, (hOg.rdk hiA).out _ st, St.apart st (Pick.takeC pkA (Pick.takeA pkA pkA)) hOg (by exact hiB)⟩) (fun v28 S28 ⟨a28, c28, l28, So28, σ28, hv28, hS28, hO28, hI28, hX28⟩ => ?_)
   subst hv28
   subst hS28
   have hl28 := hI28.len
   refine o_step rfl (s_assign rfl) ?_
   refine o_nil ?_
   refine x_block ?_
   refine x_then (hK7 _ _ ?_)
   refine c_region ?_
   refine o_step rfl (s_move rfl) ?_
   refine o_step rfl (s_add rfl rfl (by omega)) ?_
   refine o_step rfl (s_assign rfl) ?_
   refine o_nil ?_
   exact x_then (x_inv (j + 1, a28, c28, l28, So28, σ28) ⟨by dsimp only; omega, hO28, hI28.iff fun q _ => img_succ, hX.trans hX28 (Nat.le_refl _) (by omega)⟩ (by first | omega | (dsimp only; omega)) sbA hzB)
  ·
   obtain rfl : j = x.mn.toNat := by omega
   refine o_step rfl (step_cast (v' := .bool false) (s_lss rfl rfl) (by rw [decide_eq_false (by omega)])) ?_
   refine o_nil ?_
   refine x_then (hK6 _ _ ?_)
   refine c_false rfl ?_
   refine c_exit ?_
   refine x_then_exit ?_
   refine x_then_exit ?_
   refine x_block_exit ?_
   refine x_then (hK3 _ _ ?_)
   refine c_seq fun _ hK8 => ?_
   refine c_region ?_
   refine o_step rfl (s_move rfl) ?_
   refine o_step rfl (s_len rfl) ?_
   refine o_make (E := Ebo) (zx := false) (n := g.length) rfl rfl rfl (by omega) (by omega) rfl fun b31 S31 hS31 => ?_
   refine o_step rfl (s_assign rfl) ?_
   refine o_nil ?_
   refine x_then (hK8 _ _ ?_)
   refine c_seq fun _ hK9 => ?_
   refine c_region ?_
   refine o_step rfl (s_move rfl) ?_
   refine o_step rfl (s_move rfl) ?_
   refine o_call (orM2_fn (some ⟨b31, 0, none⟩) g.length g.length (List.replicate g.length false) List.length_replicate S31 hS31 ga gc g rfl (by omega)) rfl rfl rfl pkA (fun _ st => ⟨(hOg.rdk hiA).out _ st, St.apart st pkA hOg (by exact hiB)⟩) (fun v34 So34 ⟨hv34, hO34⟩ => ?_)
   subst hv34
   refine o_nil ?_
   refine x_then (hK9 _ _ ?_)
   refine c_seq fun _ hK10 => ?_
   refine c_seq fun _ hK11 => ?_
   refine c_region ?_
   refine o_step rfl (s_field rfl rfl (by decide)) ?_
   refine o_step rfl (s_ld rfl (.own meA rfl)) ?_
   refine o_step rfl (s_assign rfl) ?_
   refine o_nil ?_
   refine x_then (hK11 _ _ ?_)
   refine c_block ?_
   refine c_loop8 (fun (k : Nat) (ha : Option Addr) (hc : Nat) (h : List Bool) (Sg2 : Hp) (o : List Bool) (So : Hp) (τ : MeS) => x.mn ≤ k ∧ (x.mx = -1 → k + cf o ≤ x.mn.toNat + K.w.length + 1) ∧ (x.mx ≠ -1 → (k : Int) ≤ x.mx) ∧ OwnS Ebo 1 4 (.slice ha h.length hc) h Sg2 ∧ IsS h K.w.length (img (pow (der1 K.w y js) k) S) ∧ OwnS Ebo 1 4 (.slice (some ⟨b31, 0, none⟩) g.length g.length) o So ∧ IsS o K.w.length (upTo (der1 K.w y js) S x.mn.toNat k) ∧ K.Ext (at_ + 1) i1 σ0 τ) (fun (k : Nat) (ha : Option Addr) (hc : Nat) (h : List Bool) (Sg2 : Hp) (o : List Bool) (So : Hp) (τ : MeS) => [(10, .int .i64 k), (2, .slice ha h.length hc)]) [(0, _), (1, _), (6, _), (7, _), (9, _)] (fun (k : Nat) (ha : Option Addr) (hc : Nat) (h : List Bool) (Sg2 : Hp) (o : List Bool) (So : Hp) (τ : MeS) => (b7, .cells (En x).toArray 57 (0, 0)) :: (K.bM, .cells [.slice K.ra K.re.length K.rc, .slice K.ta K.w.length K.tc, .slice K.ma K.sls.length K.mc, .slice τ.sa τ.ss.length τ.sc].toArray 106 (0, 0)) :: (So ++ (Sg2 ++ (τ.SR ++ (τ.SS ++ τ.Pool))))) (fun (k : Nat) (ha : Option Addr) (hc : Nat) (h : List Bool) (Sg2 : Hp) (o : List Bool) (So : Hp) (τ : MeS) => (if x.mx = -1 then cf o else (x.mx - k).toNat)) x.mn.toNat ga gc g Sg (orL (List.replicate g.length false) g) So34 σ ⟨by omega, fun _ => by have h1 := cf_le (orL (List.replicate g.length false) g); rw [orL_len, List.length_replicate] at h1; omega, fun h => by omega, hOg, hIg, hO34, by have h1 := hIg.orn; rw [← hlg] at h1; exact h1.iff fun q _ => upTo_start.symm, hX⟩ (by exact Sub.cons' rfl (by congr 1; omega) sbA) sbA hzB ?_
   rintro k ha hc h Sg2 o So τ ⟨hk1, hk2, hk3, hOh, hIh, hOo, hIo, hXt⟩
   have hlo := hIo.len
   have hlog : o.length = g.length := by omega
   refine c_seq fun _ hK12 => ?_
   refine c_seq fun _ hK13 => ?_
   refine c_region ?_
   refine o_step rfl (s_field rfl rfl (by decide)) ?_
   refine o_step rfl (s_ld rfl (.own meA rfl)) ?_
   by_cases hm1 : x.mx < 0
   ·
    have hm2 : x.mx = -1 := by omega
    have hk2b := hk2 hm2
    refine o_step rfl (step_cast (v' := .bool true) (s_lss rfl rfl) (by rw [decide_eq_true (by omega)])) ?_
    refine o_step rfl (s_move rfl) ?_
    refine o_no rfl rfl rfl rfl ?_
    refine o_no rfl rfl rfl rfl ?_
    refine o_no rfl rfl rfl rfl ?_
    refine o_no rfl rfl rfl rfl ?_
    refine o_step rfl (s_pick_t rfl rfl) ?_
    refine o_nil ?_
    refine x_then (hK13 _ _ ?_)
    refine c_true rfl ?_
    refine c_skip ?_
    refine x_then (hK12 _ _ ?_)
    refine c_seq fun _ hK14 => ?_
    refine c_block ?_
    refine c_seq fun _ hK15 => ?_
    refine c_region ?_
    refine o_step rfl (s_move rfl) ?_
    refine o_step rfl (s_move rfl) ?_
    refine o_step rfl (s_add rfl rfl (by omega)) ?_
    refine o_step rfl (s_move rfl) ?_
    refine o_call (hSt (at_ + 1) _ hpk ha hc h _ hIh τ hXt.inv) rfl rfl rfl ((Pick.takeC pkA (Pick.takeA pkA pkA))) (fun _ st => ⟨⟨(RdK.old hw.d1 hw.a1).out _ st, St.apart_M st (by exact hiB) hw.d1 hw.a1 (by decide), (RdK.old hw.d2 hw.a2).out _ st, St.apart_M st (by exact hiB) hw.d2 hw.a2 (by decide), (RdK.old hw.d3 hw.a3).out _ st, St.apart_M st (by exact hiB) hw.d3 hw.a3 (by decide)⟩, (hOh.rdk hiA).out _ st, St.apart st (Pick.takeC pkA (Pick.takeA pkA pkA)) hOh (by exact hiB)⟩) (fun v52 S52 ⟨a52, c52, l52, So52, σ52, hv52, hS52, hO52, hI52, hX52⟩ => ?_)
    subst hv52
    subst hS52
    have hl52 := hI52.len
    refine o_step rfl (s_assign rfl) ?_
    refine o_nil ?_
    refine x_then (hK15 _ _ ?_)
    refine c_seq fun _ hK16 => ?_
    refine c_region ?_
    refine o_step rfl (s_move rfl) ?_
    refine o_step rfl (s_move rfl) ?_
    refine o_call (orM2_fn (some ⟨b31, 0, none⟩) g.length g.length o hlog So hOo a52 c52 l52 (by omega) (by omega)) rfl rfl rfl pkA (fun _ st => ⟨(hO52.rdk hiA).out _ st, St.apart st pkA hO52 (by exact hiB)⟩) (fun v55 So55 ⟨hv55, hO55⟩ => ?_)
    subst hv55
    by_cases hmo : moreB o l52 = false
    ·
     refine o_step rfl (step_cast (v' := .bool true) (s_not rfl) (by rw [hmo]; rfl)) ?_
     refine o_nil ?_
     refine x_then (hK16 _ _ ?_)
     refine c_true rfl ?_
     refine c_exit ?_
     refine x_block_pass rfl ?_
     refine x_then_exit ?_
     refine x_then_exit ?_
     refine x_block_exit ?_
     refine x_then (hK10 _ _ ?_)
     refine c_seq fun _ hK17 => ?_
     refine c_region ?_
     refine o_step rfl (s_move rfl) ?_
     refine o_step rfl (s_assign rfl) ?_
     refine o_nil ?_
     refine x_then (hK17 _ _ ?_)
     refine c_ret ?_
     refine ?_
     refine x_sub (Sub.refl _) (H' := (K.bM, .cells [.slice K.ra K.re.length K.rc, .slice K.ta K.w.length K.tc, .slice K.ma K.sls.length K.mc, .slice σ52.sa σ52.ss.length σ52.sc].toArray 106 (0, 0)) :: (So55 ++ (σ52.SR ++ (σ52.SS ++ σ52.Pool)))) hzB ?_
     exact x_ret rfl (.tmp rfl (.nil)) (⟨(some ⟨b31, 0, none⟩), g.length, orL o l52, So55, σ52, by rw [orL_len, hlo, hlg]; rfl, rfl, by rw [orL_len, hlo, ← hlg]; exact hO55, (hIo.or (hI52.iff fun q _ => img_succ)).iff fun q hq => ⟨fun h => (rounds_fixed2 (by omega) (by omega) (by omega) hSb hD (hIo.no_more (hI52.iff fun q _ => img_succ) hmo) q).1 (h.elim id (hIo.no_more (hI52.iff fun q _ => img_succ) hmo q hq)), fun h => .inl ((rounds_fixed2 (by omega) (by omega) (by omega) hSb hD (hIo.no_more (hI52.iff fun q _ => img_succ) hmo) q).2 h)⟩, hXt.trans hX52 (Nat.le_refl _) (by omega)⟩)
    ·
     have hmo2 : moreB o l52 = true := by simpa using hmo
     refine o_step rfl (step_cast (v' := .bool false) (s_not rfl) (by rw [hmo2]; rfl)) ?_
     refine o_nil ?_
     refine x_then (hK16 _ _ ?_)
     refine c_false rfl ?_
     refine c_skip ?_
     refine x_block ?_
     refine x_then (hK14 _ _ ?_)
     refine c_region ?_
     refine o_step rfl (s_move rfl) ?_
     refine o_step rfl (s_add rfl rfl (by omega)) ?_
     refine o_step rfl (s_assign rfl) ?_
     refine o_nil ?_
     exact x_then (x_inv (k + 1, a52, c52, l52, So52, orL o l52, So55, σ52) ⟨by dsimp only; omega, fun h => by have := cf_more hmo2; have := hk2 hm2; dsimp only; omega, fun h => absurd hm2 h, hO52, hI52.iff fun q _ => img_succ, hO55, (hIo.or (hI52.iff fun q _ => img_succ)).iff fun q _ => (upTo_succ (by omega)).symm, hXt.trans hX52 (Nat.le_refl _) (by omega)⟩ (by dsimp only; rw [if_pos hm2, if_pos hm2]; exact cf_more hmo2) sbA hzB)
   ·
    have hk3b := hk3 (by omega)
    refine o_step rfl (step_cast (v' := .bool false) (s_lss rfl rfl) (by rw [decide_eq_false (by omega)])) ?_
    refine o_step rfl (s_move rfl) ?_
    refine o_yes rfl rfl ?_
    refine o_step rfl (s_move rfl) ?_
    refine o_yes rfl rfl ?_
    refine o_step rfl (s_field rfl rfl (by decide)) ?_
    refine o_yes rfl rfl ?_
    refine o_step rfl (s_ld rfl (.own meA rfl)) ?_
    refine o_yes rfl rfl ?_
    by_cases hkm : (k : Int) < x.mx
    ·
     refine o_step rfl (step_cast (v' := .bool true) (s_lss rfl rfl) (by rw [decide_eq_true (by omega)])) ?_
     refine o_step rfl (s_pick_f rfl rfl) ?_
     refine o_nil ?_
     refine x_then (hK13 _ _ ?_)
     refine c_true rfl ?_
     refine c_skip ?_
     refine x_then (hK12 _ _ ?_)
     refine c_seq fun _ hK18 => ?_
     refine c_block ?_
     refine c_seq fun _ hK19 => ?_
     refine c_region ?_
     refine o_step rfl (s_move rfl) ?_
     refine o_step rfl (s_move rfl) ?_
     refine o_step rfl (s_add rfl rfl (by omega)) ?_
     refine o_step rfl (s_move rfl) ?_
     refine o_call (hSt (at_ + 1) _ hpk ha hc h _ hIh τ hXt.inv) rfl rfl rfl ((Pick.takeC pkA (Pick.takeA pkA pkA))) (fun _ st => ⟨⟨(RdK.old hw.d1 hw.a1).out _ st, St.apart_M st (by exact hiB) hw.d1 hw.a1 (by decide), (RdK.old hw.d2 hw.a2).out _ st, St.apart_M st (by exact hiB) hw.d2 hw.a2 (by decide), (RdK.old hw.d3 hw.a3).out _ st, St.apart_M st (by exact hiB) hw.d3 hw.a3 (by decide)⟩, (hOh.rdk hiA).out _ st, St.apart st (Pick.takeC pkA (Pick.takeA pkA pkA)) hOh (by exact hiB)⟩) (fun v52 S52 ⟨a52, c52, l52, So52, σ52, hv52, hS52, hO52, hI52, hX52⟩ => ?_)
     subst hv52
     subst hS52
     have hl52 := hI52.len
     refine o_step rfl (s_assign rfl) ?_
     refine o_nil ?_
     refine x_then (hK19 _ _ ?_)
     refine c_seq fun _ hK20 => ?_
     refine c_region ?_
     refine o_step rfl (s_move rfl) ?_
     refine o_step rfl (s_move rfl) ?_
     refine o_call (orM2_fn (some ⟨b31, 0, none⟩) g.length g.length o hlog So hOo a52 c52 l52 (by omega) (by omega)) rfl rfl rfl pkA (fun _ st => ⟨(hO52.rdk hiA).out _ st, St.apart st pkA hO52 (by exact hiB)⟩) (fun v55 So55 ⟨hv55, hO55⟩ => ?_)
     subst hv55
     by_cases hmo : moreB o l52 = false
     ·
      refine o_step rfl (step_cast (v' := .bool true) (s_not rfl) (by rw [hmo]; rfl)) ?_
      refine o_nil ?_
      refine x_then (hK20 _ _ ?_)
      refine c_true rfl ?_
      refine c_exit ?_
      refine x_block_pass rfl ?_
      refine x_then_exit ?_
      refine x_then_exit ?_
      refine x_block_exit ?_
      refine x_then (hK10 _ _ ?_)
      refine c_seq fun _ hK21 => ?_
      refine c_region ?_
      refine o_step rfl (s_move rfl) ?_
      refine o_step rfl (s_assign rfl) ?_
      refine o_nil ?_
      refine x_then (hK21 _ _ ?_)
      refine c_ret ?_
      refine ?_
      refine x_sub (Sub.refl _) (H' := (K.bM, .cells [.slice K.ra K.re.length K.rc, .slice K.ta K.w.length K.tc, .slice K.ma K.sls.length K.mc, .slice σ52.sa σ52.ss.length σ52.sc].toArray 106 (0, 0)) :: (So55 ++ (σ52.SR ++ (σ52.SS ++ σ52.Pool)))) hzB ?_
      exact x_ret rfl (.tmp rfl (.nil)) (⟨(some ⟨b31, 0, none⟩), g.length, orL o l52, So55, σ52, by rw [orL_len, hlo, hlg]; rfl, rfl, by rw [orL_len, hlo, ← hlg]; exact hO55, (hIo.or (hI52.iff fun q _ => img_succ)).iff fun q hq => ⟨fun h => (rounds_fixed2 (by omega) (by omega) (by omega) hSb hD (hIo.no_more (hI52.iff fun q _ => img_succ) hmo) q).1 (h.elim id (hIo.no_more (hI52.iff fun q _ => img_succ) hmo q hq)), fun h => .inl ((rounds_fixed2 (by omega) (by omega) (by omega) hSb hD (hIo.no_more (hI52.iff fun q _ => img_succ) hmo) q).2 h)⟩, hXt.trans hX52 (Nat.le_refl _) (by omega)⟩)
     ·
      have hmo2 : moreB o l52 = true := by simpa using hmo
      refine o_step rfl (step_cast (v' := .bool false) (s_not rfl) (by rw [hmo2]; rfl)) ?_
      refine o_nil ?_
      refine x_then (hK20 _ _ ?_)
      refine c_false rfl ?_
      refine c_skip ?_
      refine x_block ?_
      refine x_then (hK18 _ _ ?_)
      refine c_region ?_
      refine o_step rfl (s_move rfl) ?_
      refine o_step rfl (s_add rfl rfl (by omega)) ?_
      refine o_step rfl (s_assign rfl) ?_
      refine o_nil ?_
      exact x_then (x_inv (k + 1, a52, c52, l52, So52, orL o l52, So55, σ52) ⟨by dsimp only; omega, fun h => by omega, fun h => by omega, hO52, hI52.iff fun q _ => img_succ, hO55, (hIo.or (hI52.iff fun q _ => img_succ)).iff fun q _ => (upTo_succ (by omega)).symm, hXt.trans hX52 (Nat.le_refl _) (by omega)⟩ (by dsimp only; rw [if_neg (by omega), if_neg (by omega)]; omega) sbA hzB)
    ·
     refine o_step rfl (step_cast (v' := .bool false) (s_lss rfl rfl) (by rw [decide_eq_false (by omega)])) ?_
     refine o_step rfl (s_pick_f rfl rfl) ?_
     refine o_nil ?_
     refine x_then (hK13 _ _ ?_)
     refine c_false rfl ?_
     refine c_exit ?_
     refine x_then_exit ?_
     refine x_then_exit ?_
     refine x_block_exit ?_
     refine x_then (hK10 _ _ ?_)
     refine c_seq fun _ hK22 => ?_
     refine c_region ?_
     refine o_step rfl (s_move rfl) ?_
     refine o_step rfl (s_assign rfl) ?_
     refine o_nil ?_
     refine x_then (hK22 _ _ ?_)
     refine c_ret ?_
     refine ?_
     refine x_sub (Sub.refl _) (H' := (K.bM, .cells [.slice K.ra K.re.length K.rc, .slice K.ta K.w.length K.tc, .slice K.ma K.sls.length K.mc, .slice τ.sa τ.ss.length τ.sc].toArray 106 (0, 0)) :: (So ++ (τ.SR ++ (τ.SS ++ τ.Pool)))) hzB ?_
     exact x_ret rfl (.tmp rfl (.nil)) (⟨(some ⟨b31, 0, none⟩), g.length, o, So, τ, by rw [hlo, hlg]; rfl, rfl, by rw [hlo, ← hlg]; exact hOo, hIo.iff fun q _ => rounds_last (by omega) (by omega) q, hXt⟩)
end Go.Proofs.YtmompllplidphaaDoor
namespace Go.Proofs.YtmompllplidphaaDoor
open Go Go.HL Go.Proofs Go.HL.Kl Go.HL.Kl.Mc
theorem rBehind_fn (ra : Option Addr) (rc : Nat) (re : List Nd) (hre : ∀ x ∈ re, -128 ≤ x.op ∧ x.op < 128) (hsb : shapedB re = true) (x : Nd) (ks : F) (i i1 : Nat) (hp : Part re (.nd x ks .nil) i i1) : HL.Fn Tryd.prog 101 [.slice ra re.length rc, .int .i64 i] (fun w => Rd En w (.slice ra re.length rc) re) [] (fun v _ => v = .int .i64 i1) := by
  refine fn_of Tryd.func101 rfl rfl rfl fun w0 hw => ?_
  have hsl := hw.sl
  have hbl := hsl.le
  have hil := (List.getElem?_eq_some_iff.1 hp.head.1).1
  refine c_seq fun _ hK1 => ?_
  refine c_region ?_
  refine o_step rfl (s_assign rfl) ?_
  refine o_nil ?_
  refine x_then (hK1 _ _ ?_)
  refine c_seq fun _ hK2 => ?_
  refine c_seq fun _ hK3 => ?_
  refine c_region ?_
  refine o_step rfl (s_move rfl) ?_
  refine o_callP (rShaped_fn ra rc re hre) rfl rfl rfl (fun w st => (RdK.old0 hw).out w st) (fun v7 hv7 => ?_)
  rw [hsb] at hv7
  subst hv7
  refine o_step rfl (s_not rfl) ?_
  refine o_step rfl (s_move rfl) ?_
  refine o_yes rfl rfl ?_
  refine o_step rfl (s_move rfl) ?_
  refine o_yes rfl rfl ?_
  refine o_step rfl (s_lss_f rfl rfl (by omega)) ?_
  refine o_step rfl (s_pick_f rfl rfl) ?_
  refine o_step rfl (s_move rfl) ?_
  refine o_yes rfl rfl ?_
  refine o_step rfl (s_move rfl) ?_
  refine o_yes rfl rfl ?_
  refine o_step rfl (s_move rfl) ?_
  refine o_yes rfl rfl ?_
  refine o_step rfl (s_len rfl) ?_
  refine o_yes rfl rfl ?_
  refine o_step rfl (s_geq_f rfl rfl (by omega)) ?_
  refine o_step rfl (s_pick_f rfl rfl) ?_
  refine o_nil ?_
  refine x_then (hK3 _ _ ?_)
  refine c_false rfl ?_
  refine c_skip ?_
  refine x_then (hK2 _ _ ?_)
  refine c_seq fun _ hK4 => ?_
  refine c_region ?_
  refine o_step rfl (s_assign rfl) ?_
  refine o_nil ?_
  refine x_then (hK4 _ _ ?_)
  refine c_seq fun _ hK5 => ?_
  refine c_block ?_
  refine c_loop2 (fun (g : F) (p : Nat) => Part re g p i1) (fun (g : F) (p : Nat) => [(5, .int .i64 g.num), (1, .int .i64 p)]) [(0, _), (4, _)] (fun (g : F) (p : Nat) => _) (fun (g : F) (p : Nat) => i1 - p) (.nd x ks .nil) i hp (by exact Sub.cons' rfl (by rw [F.num, F.num]; rfl) sbA) sbA hzB ?_
  rintro g p hpg
  have hgl := hpg.len
  have hgle := hpg.le
  have hgn := F.num_le g
  refine c_seq fun _ hK6 => ?_
  refine c_seq fun _ hK7 => ?_
  refine c_region ?_
  refine o_step rfl (s_move rfl) ?_
  by_cases hg : (g.num : Int) > 0
  ·
   obtain ⟨y, js, r, rfl⟩ : ∃ y js r, g = F.nd y js r := by cases g with | nil => simp [F.num] at hg | nd y a b => exact ⟨y, a, b, rfl⟩
   have hy := hpg.head.1
   have hyl := (List.getElem?_eq_some_iff.1 hy).1
   have hkn : (js.num : Int) = y.kids := hpg.wf.2.1
   have hjn := F.num_le js
   simp only [F.num] at hg hgn ⊢
   simp only [F.size] at hgl hgn
   refine o_step rfl (step_cast (v' := .bool true) (s_gtr rfl rfl) (by rw [decide_eq_true (by omega)])) ?_
   refine o_nil ?_
   refine x_then (hK7 _ _ ?_)
   refine c_true rfl ?_
   refine c_skip ?_
   refine x_then (hK6 _ _ ?_)
   refine c_block ?_
   refine c_seq fun _ hK8 => ?_
   refine c_region ?_
   refine o_step rfl (s_move rfl) ?_
   refine o_step rfl (s_sub rfl rfl (by omega)) ?_
   refine o_step rfl (s_move rfl) ?_
   refine o_step rfl (s_move rfl) ?_
   refine o_step rfl (s_idx rfl rfl hsl (by omega)) ?_
   refine o_step rfl (s_field rfl rfl (by decide)) ?_
   refine o_step rfl (s_ld rfl ((RdK.old0 hw).ld p 8 hy rfl (by decide) (by omega))) ?_
   refine o_step rfl (s_add rfl rfl (by omega)) ?_
   refine o_step rfl (s_assign rfl) ?_
   refine o_nil ?_
   refine x_then (hK8 _ _ ?_)
   refine c_region ?_
   refine o_step rfl (s_move rfl) ?_
   refine o_step rfl (s_add rfl rfl (by omega)) ?_
   refine o_step rfl (s_assign rfl) ?_
   refine o_nil ?_
   refine x_block ?_
   exact x_then (x_inv ((js.app r), p + 1) hpg.down (by dsimp only; omega) (by exact Sub.cons' rfl (by rw [F.num_app, ← hkn]; congr 1; omega) sbA) hzB)
  ·
   obtain rfl : g = F.nil := F.num_nil (by omega)
   simp only [F.size] at hgl
   refine o_step rfl (step_cast (v' := .bool false) (s_gtr rfl rfl) (by rw [decide_eq_false (by omega)])) ?_
   refine o_nil ?_
   refine x_then (hK7 _ _ ?_)
   refine c_false rfl ?_
   refine c_exit ?_
   refine x_then_exit ?_
   refine x_then_exit ?_
   refine x_block_exit ?_
   refine x_then (hK5 _ _ ?_)
   refine c_seq fun _ hK9 => ?_
   refine c_region ?_
   refine o_step rfl (s_move rfl) ?_
   refine o_step rfl (s_assign rfl) ?_
   refine o_nil ?_
   refine x_then (hK9 _ _ ?_)
   refine c_ret ?_
   refine ?_
   exact x_ret rfl (.tmp rfl (.nil)) ((congrArg (Value.int .i64) (by omega)))
end Go.Proofs.YtmompllplidphaaDoor
