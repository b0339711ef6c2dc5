/- Part of the proofs over this seat: see the text that holds the theorem. Conditions: each theorem bears its own. -/
import Derived.Test.YtmpeokbongnniaaHTZ
import Derived.Test.YtmpeokbongnniaaML1Z
namespace Go.Proofs.Ytmpeokbongnniaa
open Go Go.HL Go.Proofs Go.HL.Kl Go.HL.Kl.Mc Go.HL.Kl.Mc.AskE
/-- a search of a machine over texts of n bytes, and the places that it has noted -/
def SrE (bS : Nat) (m : List In) (n : Nat) (es : List Bool) (S : Hp) : Prop := ∃ (ma : Option Addr) (mc : Nat) (ta : Option Addr) (tc : Nat) (g : FrG) (l0 : List Nat) (ea : Option Addr) (ec : Nat) (Sm : Hp),
  S = (bS, .cells [.slice ma m.length mc, .slice ta m.length tc, .int .i16 g.st, .slice g.ha g.l.length g.hc, .slice g.wa g.wl.length g.wc, .slice ea es.length ec, .int .i64 g.steps].toArray 154 (0, 0)) :: (Sm ++ (g.St ++ (g.Sh ++ (g.Sw ++ g.Se)))) ∧
  OwnS Ein 7 109 (.slice ma m.length mc) m Sm ∧ OwnS Es16 1 152 (.slice ta m.length tc) g.mt g.St ∧ MetOk g.mt g.st l0 m.length ∧ (0 ≤ g.st ∧ g.st ≤ 32767) ∧
  OwnS Eix 1 3 (.slice g.ha g.l.length g.hc) g.l g.Sh ∧ OwnS Eix 1 3 (.slice g.wa g.wl.length g.wc) g.wl g.Sw ∧ OwnS Ebo 1 4 (.slice ea es.length ec) es g.Se ∧ (es.length = n + 1 ∨ (es = [] ∧ ec = 0)) ∧ g.l.length ≤ m.length ∧ g.wl.length ≤ m.length
set_option maxHeartbeats 4000000 in
theorem from_fn (bS : Nat) (ma : Option Addr) (mc : Nat) (m : List In) (ta : Option Addr) (tc : Nat) (g0 : FrG) (l0 : List Nat) (ea0 : Option Addr) (ec0 : Nat) (es : List Bool) (Sm : Hp) (hm : OwnS Ein 7 109 (.slice ma m.length mc) m Sm) (hmr : ∀ x ∈ m, -128 ≤ x.op ∧ x.op < 128) (hmok : MOk m) (hT0 : OwnS Es16 1 152 (.slice ta m.length tc) g0.mt g0.St) (hM0 : MetOk g0.mt g0.st l0 m.length) (h00 : 0 ≤ g0.st ∧ g0.st ≤ 32767) (hl0 : OwnS Eix 1 3 (.slice g0.ha g0.l.length g0.hc) g0.l g0.Sh) (hW0 : OwnS Eix 1 3 (.slice g0.wa g0.wl.length g0.wc) g0.wl g0.Sw) (hE0 : OwnS Ebo 1 4 (.slice ea0 es.length ec0) es g0.Se) (xa : Option Addr) (xc : Nat) (w : List UInt8) (hwl : w.length ≤ 1000000) (hes : es.length = w.length + 1 ∨ (es = [] ∧ ec0 = 0)) (hgl : g0.l.length ≤ m.length) (hgw : g0.wl.length ≤ m.length) (f : Nat) (hf : f ≤ w.length) : HL.Fn Try.prog 90 [pt bS, .slice xa w.length xc, .int .i64 f] (fun W => Rd Eb W (.slice xa w.length xc) w ∧ Apart (keys ((bS, .cells [.slice ma m.length mc, .slice ta m.length tc, .int .i16 g0.st, (.slice g0.ha g0.l.length g0.hc), (.slice g0.wa g0.wl.length g0.wc), .slice ea0 es.length ec0, .int .i64 g0.steps].toArray 154 (0, 0)) :: (Sm ++ (g0.St ++ (g0.Sh ++ (g0.Sw ++ g0.Se)))))) (.slice xa w.length xc)) ((bS, .cells [.slice ma m.length mc, .slice ta m.length tc, .int .i16 g0.st, (.slice g0.ha g0.l.length g0.hc), (.slice g0.wa g0.wl.length g0.wc), .slice ea0 es.length ec0, .int .i64 g0.steps].toArray 154 (0, 0)) :: (Sm ++ (g0.St ++ (g0.Sh ++ (g0.Sw ++ g0.Se))))) (fun v S' => ∃ es' last, v = .int .i64 last ∧ SrE bS m w.length es' S' ∧ EndsTo m w f (w.length + 1) es' last) := by
  refine fn_of Try.func90 rfl rfl rfl fun w0 hw => ?_
  have hml : m.length ≤ 70000 := by have := hmok.2.1; omega
  have hm1 : 0 < m.length := hmok.1
  have hxl := hw.1.sl
  have hms := hm.sl
  have hec := hE0.sl.cap
  have hEs0 := hE0.sl
  refine c_seq fun _ hK1 => ?_
  refine c_region ?_
  refine o_step rfl (s_assign rfl) ?_
  refine o_nil ?_
  refine x_then (hK1 _ _ ?_)
  refine c_seqJ (ι := Option Addr × Nat × Nat × List Bool × Hp) (fun j => OwnS Ebo 1 4 (.slice j.1 j.2.2.1 j.2.1) j.2.2.2.1 j.2.2.2.2 ∧ j.2.2.2.1.length = w.length + 1 ∧ j.2.2.1 = w.length + 1) (fun j => []) [(0, _), (1, _), (2, _), (6, _)] (fun j => (bS, .cells [.slice ma m.length mc, .slice ta m.length tc, .int .i16 g0.st, (.slice g0.ha g0.l.length g0.hc), (.slice g0.wa g0.wl.length g0.wc), (.slice j.1 j.2.2.1 j.2.1), .int .i64 g0.steps].toArray 154 (0, 0)) :: (Sm ++ (g0.St ++ (g0.Sh ++ (g0.Sw ++ j.2.2.2.2))))) sbA ?_ ?_
  ·
   rintro ⟨ja, jc, jn, jes, jS⟩ ⟨hj, hjl, hjn⟩
   refine c_seq fun _ hK3 => ?_
   refine c_region ?_
   refine o_step rfl (s_move rfl) ?_
   refine o_step rfl (s_move rfl) ?_
   refine o_step rfl (s_nil rfl) ?_
   refine o_step rfl (s_field rfl rfl (by decide)) ?_
   refine o_step rfl (s_ld rfl (.own meA rfl)) ?_
   refine o_step rfl (s_move rfl) ?_
   refine o_step rfl (s_len rfl) ?_
   refine o_step rfl (s_add rfl rfl (by omega)) ?_
   refine o_step rfl (step_cast (v' := .slice ja (w.length + 1) jc) (s_slice_hi rfl rfl (by have := hj.sl.cap; omega)) (congrArg (fun n => Value.slice ja n jc) (by omega))) ?_
   refine o_step rfl (s_nil rfl) ?_
   refine o_step rfl (s_field rfl rfl (by decide)) ?_
   refine o_store rfl rfl rfl upA ltA rfl ?_
   refine o_nil ?_
   refine x_then (hK3 _ _ ?_)
   refine c_seq fun _ hK4 => ?_
   refine c_region ?_
   refine o_step rfl (s_move rfl) ?_
   refine o_step rfl (s_nil rfl) ?_
   refine o_step rfl (s_field rfl rfl (by decide)) ?_
   refine o_step rfl (s_ld rfl (.own meA rfl)) ?_
   dsimp only at hj hjl hjn
   subst hjn
   refine o_clear (zx := false) hj rfl rfl pkA fun S45 hS45 => ?_
   refine o_nil ?_
   refine x_then (hK4 _ _ ?_)
   refine c_seq fun _ hK5 => ?_
   refine c_region ?_
   refine o_step rfl (s_assign rfl) ?_
   refine o_nil ?_
   refine x_then (hK5 _ _ ?_)
   refine c_seq fun _ hK6 => ?_
   refine c_region ?_
   refine o_step rfl (s_move rfl) ?_
   refine o_call (fresh_fn bS ma mc m ta tc (.slice g0.ha g0.l.length g0.hc) (.slice g0.wa g0.wl.length g0.wc) (.slice ja (w.length + 1) jc) g0.st g0.steps g0.mt g0.St hT0 l0 hM0 h00.1 h00.2) rfl rfl rfl ((Pick.takeC pkA pkA)) (fun _ _ => trivial) (fun v47 S47 ⟨mt1, St1, st1, hS47, hT, hM, h0, h1⟩ => ?_)
   subst hS47
   refine o_nil ?_
   refine x_then (hK6 _ _ ?_)
   refine c_seq fun _ hK7 => ?_
   refine c_region ?_
   refine o_step rfl (s_move rfl) ?_
   refine o_step rfl (s_move rfl) ?_
   refine o_step rfl (s_move rfl) ?_
   refine o_step rfl (s_nil rfl) ?_
   refine o_step rfl (s_field rfl rfl (by decide)) ?_
   refine o_step rfl (s_ld rfl (.own meA rfl)) ?_
   refine o_step rfl (step_cast (v' := .slice g0.ha ([] : List Nat).length g0.hc) (s_slice_hi rfl rfl (by omega)) rfl) ?_
   have hl1 := hl0.pre 0 (Nat.zero_le _)
   rw [List.take_zero] at hl1
   refine o_call (come_fn bS ma mc m hml ta tc ((.slice g0.ha g0.l.length g0.hc)) ((.slice g0.wa g0.wl.length g0.wc)) (.slice ja (w.length + 1) jc) st1 g0.steps mt1 St1 hT g0.ha g0.hc [] g0.Sh hl1 hM h0 0 hm1) rfl rfl rfl ((Pick.takeC pkA (Pick.takeA pkA pkA))) (fun _ _ => trivial) (fun v55 S55 ⟨a2, c2, mt2, St2, Sl2, sp2, hv55, hS55, hT2, hl2, hM2⟩ => ?_)
   subst hv55
   subst hS55
   refine o_step rfl (s_nil rfl) ?_
   refine o_step rfl (s_field rfl rfl (by decide)) ?_
   refine o_store rfl rfl rfl upA ltA rfl ?_
   refine o_nil ?_
   refine x_then (hK7 _ _ ?_)
   refine c_seq fun _ hK8 => ?_
   refine c_seq fun _ hK9 => ?_
   refine c_region ?_
   refine o_step rfl (s_move rfl) ?_
   refine o_step rfl (s_assign rfl) ?_
   refine o_nil ?_
   refine x_then (hK9 _ _ ?_)
   refine c_block ?_
   obtain ⟨ea, hea⟩ : ∃ ea, ea = ja := ⟨_, rfl⟩
   obtain ⟨ec, hec2⟩ : ∃ ec, ec = jc := ⟨_, rfl⟩
   rw [← hea, ← hec2] at hS45
   have hz : OwnS Ebo 1 4 (.slice ea (w.length + 1) ec) (List.replicate (w.length + 1) false) S45 := by rw [hjl] at hS45; exact hS45
   have hb0 : ∀ k, k ∈ comeL ([] : List Nat) 0 ↔ Base m w f f k := fun k => by rw [comeL_mem]; exact ⟨fun h => .inl ⟨rfl, h.elim (fun h => by cases h) id⟩, fun h => h.elim (fun h => .inr h.2) fun ⟨q, x, h1, h2, _⟩ => by omega⟩
   refine c_loop2 (fun (p : Nat) (g : FrG) => f ≤ p ∧ p ≤ w.length ∧ (OwnS Es16 1 152 (.slice ta m.length tc) g.mt g.St ∧ OwnS Eix 1 3 (.slice g.ha g.l.length g.hc) g.l g.Sh ∧ OwnS Eix 1 3 (.slice g.wa g.wl.length g.wc) g.wl g.Sw ∧ OwnS Ebo 1 4 (.slice ea (w.length + 1) ec) g.es g.Se ∧ (0 ≤ g.st ∧ g.st ≤ 32767) ∧ g.wl.length ≤ m.length) ∧ MetOk g.mt g.st g.l m.length ∧ (∀ k, k ∈ g.l ↔ Base m w f p k) ∧ EndsTo m w f p g.es g.last) (fun (p : Nat) (g : FrG) => [(8, .int .i64 p), (7, .int .i64 g.last)]) [(0, _), (1, _), (6, _)] (fun (p : Nat) (g : FrG) => (bS, .cells [.slice ma m.length mc, .slice ta m.length tc, .int .i16 g.st, (.slice g.ha g.l.length g.hc), (.slice g.wa g.wl.length g.wc), .slice ea (w.length + 1) ec, .int .i64 g.steps].toArray 154 (0, 0)) :: (Sm ++ (g.St ++ (g.Sh ++ (g.Sw ++ g.Se))))) (fun (p : Nat) (g : FrG) => w.length + 1 - p) f ⟨st1, sp2, -1, mt2, a2, c2, comeL [] 0, g0.wa, g0.wc, g0.wl, List.replicate (w.length + 1) false, St2, Sl2, g0.Sw, S45⟩ ⟨Nat.le_refl _, hf, ⟨hT2, hl2, hW0, hz, ⟨h0, h1⟩, hgw⟩, hM2, hb0, EndsTo.zero⟩ sbA sbA (by subst hea; subst hec2; (try dsimp only); (try simp only [List.append_assoc, List.cons_append, List.nil_append]); exact hzB) ?_
   rintro p g ⟨hfp, hpn, ⟨hT, hl, hW, hE, ⟨h0, h1⟩, hwl2⟩, hM, hB, hE2⟩
   have hE2l := hE2.len
   refine c_seq fun _ hK10 => ?_
   refine c_seq fun _ hK11 => ?_
   refine c_region ?_
   refine o_step rfl (s_move rfl) ?_
   refine o_step rfl (s_nil rfl) ?_
   refine o_step rfl (s_field rfl rfl (by decide)) ?_
   refine o_step rfl (s_ld rfl (.own meA rfl)) ?_
   refine o_step rfl (s_len rfl) ?_
   by_cases hlen : (g.l.length : Int) > 0
   ·
    refine o_step rfl (step_cast (v' := .bool true) (s_gtr rfl rfl) (by rw [decide_eq_true (by omega)])) ?_
    refine o_nil ?_
    refine x_then (hK11 _ _ ?_)
    refine c_true rfl ?_
    refine c_skip ?_
    refine x_then (hK10 _ _ ?_)
    refine c_seq fun _ hK12 => ?_
    refine c_block ?_
    refine c_seq fun _ hK13 => ?_
    refine c_seq fun _ hK14 => ?_
    refine c_region ?_
    refine o_step rfl (s_assign rfl) ?_
    refine o_nil ?_
    refine x_then (hK14 _ _ ?_)
    refine c_block ?_
    obtain ⟨gp, hgp⟩ : ∃ gp, gp = g := ⟨_, rfl⟩
    subst hgp
    refine c_loop2 (fun (i : Nat) (g : FrG) => i ≤ g.l.length ∧ (OwnS Es16 1 152 (.slice ta m.length tc) g.mt g.St ∧ OwnS Eix 1 3 (.slice g.ha g.l.length g.hc) g.l g.Sh ∧ OwnS Eix 1 3 (.slice g.wa g.wl.length g.wc) g.wl g.Sw ∧ OwnS Ebo 1 4 (.slice ea (w.length + 1) ec) g.es g.Se ∧ (0 ≤ g.st ∧ g.st ≤ 32767) ∧ g.wl.length ≤ m.length) ∧ MetOk g.mt g.st g.l m.length ∧ Lst m w.length p (Base m w f p) g.l i ∧ Done6 m g.l i p gp.es gp.last g.es g.last ∧ g.es.length = w.length + 1) (fun (i : Nat) (g : FrG) => [(9, .int .i64 i), (7, .int .i64 g.last)]) [(0, _), (1, _), (6, _), (8, _), (59, _), (60, _), (61, _), (62, _), (63, _), (64, _)] (fun (i : Nat) (g : FrG) => (bS, .cells [.slice ma m.length mc, .slice ta m.length tc, .int .i16 g.st, (.slice g.ha g.l.length g.hc), (.slice g.wa g.wl.length g.wc), .slice ea (w.length + 1) ec, .int .i64 g.steps].toArray 154 (0, 0)) :: (Sm ++ (g.St ++ (g.Sh ++ (g.Sw ++ g.Se))))) (fun (i : Nat) (g : FrG) => m.length + 1 - i) 0 gp ⟨Nat.zero_le _, ⟨hT, hl, hW, hE, ⟨h0, h1⟩, hwl2⟩, hM, Lst.start hB fun k => base_lt hmok, Done6.zero, hE2l⟩ sbA sbA hzB ?_
    rintro i g ⟨hi, ⟨hT, hl, hW, hE, ⟨h0, h1⟩, hwl2⟩, hM, hLs, hD, hel⟩
    refine c_seq fun _ hK15 => ?_
    refine c_seq fun _ hK16 => ?_
    refine c_region ?_
    refine o_step rfl (s_move rfl) ?_
    refine o_step rfl (s_move rfl) ?_
    refine o_step rfl (s_nil rfl) ?_
    refine o_step rfl (s_field rfl rfl (by decide)) ?_
    refine o_step rfl (s_ld rfl (.own meA rfl)) ?_
    refine o_step rfl (s_len rfl) ?_
    by_cases hig : (i : Int) < g.l.length
    ·
     obtain ⟨k, hk⟩ : ∃ k, g.l[i]? = some k := ⟨_, List.getElem?_eq_getElem (by omega)⟩
     have hkm := hLs.lt k (List.mem_of_getElem? hk)
     obtain ⟨u, hu⟩ : ∃ u, m[k]? = some u := ⟨_, List.getElem?_eq_getElem hkm⟩
     have hum := hmr u (List.mem_of_getElem? hu)
     have huk := hmok.2.2 k u hu
     have hub := huk.1.bnd
     have huo := huk.1.1
     have hig : i < g.l.length := by omega
     have hgb := hM.big
     have hil : i < 70000 := by omega
     refine o_step rfl (step_cast (v' := .bool true) (s_lss rfl rfl) (by rw [decide_eq_true (by omega)])) ?_
     refine o_nil ?_
     refine x_then (hK16 _ _ ?_)
     refine c_true rfl ?_
     refine c_skip ?_
     refine x_then (hK15 _ _ ?_)
     refine c_seq fun _ hK17 => ?_
     refine c_block ?_
     refine c_seq fun _ hK18 => ?_
     refine c_region ?_
     refine o_step rfl (s_move rfl) ?_
     refine o_step rfl (s_nil rfl) ?_
     refine o_step rfl (s_field rfl rfl (by decide)) ?_
     refine o_step rfl (s_ld rfl (.own meA rfl)) ?_
     refine o_step rfl (s_move rfl) ?_
     refine o_step rfl (s_idx rfl rfl hl.sl (by omega)) ?_
     refine o_step rfl (s_ld rfl ((hl.rdk hiA).ld i 0 hk rfl (by decide) (by omega))) ?_
     refine o_step rfl (s_assign rfl) ?_
     refine o_nil ?_
     refine x_then (hK18 _ _ ?_)
     refine c_seq fun _ hK19 => ?_
     refine c_region ?_
     refine o_step rfl (s_move rfl) ?_
     refine o_step rfl (s_nil rfl) ?_
     refine o_step rfl (s_field rfl rfl (by decide)) ?_
     refine o_step rfl (s_ld rfl (.own meA rfl)) ?_
     refine o_step rfl (s_move rfl) ?_
     refine o_step rfl (s_idx rfl rfl hms (by omega)) ?_
     refine o_step rfl (s_assign rfl) ?_
     refine o_nil ?_
     refine x_then (hK19 _ _ ?_)
     refine c_seq fun _ hK20 => ?_
     refine c_region ?_
     refine o_step rfl (s_move rfl) ?_
     refine o_step rfl (s_nil rfl) ?_
     refine o_step rfl (s_field rfl rfl (by decide)) ?_
     refine o_step rfl (s_ld rfl ((hm.rdk hiA).ld k 0 hu rfl (by decide) (by omega))) ?_
     refine o_nil ?_
     refine x_then (hK20 _ _ ?_)
     refine c_block ?_
     refine c_seq fun _ hK21 => ?_
     refine c_region ?_
     by_cases o2 : u.op = 2
     ·
      refine o_step rfl (step_cast (v' := .bool true) (s_eql rfl rfl) (by rw [decide_eq_true o2])) ?_
      refine o_step rfl (s_assign rfl) ?_
      refine o_nil ?_
      refine x_then (hK21 _ _ ?_)
      refine c_true rfl ?_
      refine c_seq fun _ hK22 => ?_
      refine c_region ?_
      refine o_step rfl (s_move rfl) ?_
      by_cases hp0 : (p : Int) = 0
      ·
       refine o_step rfl (step_cast (v' := .bool true) (s_eql rfl rfl) (by rw [decide_eq_true (by omega)])) ?_
       refine o_nil ?_
       refine x_then (hK22 _ _ ?_)
       refine c_true rfl ?_
       refine c_region ?_
       refine o_step rfl (s_move rfl) ?_
       refine o_step rfl (s_move rfl) ?_
       refine o_step rfl (s_move rfl) ?_
       refine o_step rfl (s_nil rfl) ?_
       refine o_step rfl (s_field rfl rfl (by decide)) ?_
       refine o_step rfl (s_ld rfl (.own meA rfl)) ?_
       refine o_step rfl (s_move rfl) ?_
       refine o_step rfl (s_add rfl rfl (by omega)) ?_
       refine o_call (come_fn bS ma mc m hml ta tc ((.slice g.ha g.l.length g.hc)) ((.slice g.wa g.wl.length g.wc)) (.slice ea (w.length + 1) ec) g.st g.steps g.mt g.St hT g.ha g.hc g.l g.Sh hl hM h0 (k + 1) (huk.2 (by omega))) rfl rfl rfl ((Pick.takeC pkA (Pick.takeA pkA pkA))) (fun _ _ => trivial) (fun v105 S105 ⟨a3, c3, mt3, St3, Sl3, sp3, hv105, hS105, hT3, hl3, hM3⟩ => ?_)
       subst hv105
       subst hS105
       refine o_step rfl (s_nil rfl) ?_
       refine o_step rfl (s_field rfl rfl (by decide)) ?_
       refine o_store rfl rfl rfl upA ltA rfl ?_
       refine o_nil ?_
       refine x_block ?_
       refine x_block ?_
       refine x_then (hK17 _ _ ?_)
       refine c_region ?_
       refine o_step rfl (s_move rfl) ?_
       refine o_step rfl (s_add rfl rfl (by omega)) ?_
       refine o_step rfl (s_assign rfl) ?_
       refine o_nil ?_
       exact x_then (x_inv (i + 1, ⟨g.st, sp3, g.last, mt3, a3, c3, comeL g.l (k + 1), g.wa, g.wc, g.wl, g.es, St3, Sl3, g.Sw, g.Se⟩) ⟨by dsimp only; have := (comeL_len (l := g.l) (k := (k + 1))).1; omega, ⟨hT3, hl3, hW, hE, ⟨h0, h1⟩, hwl2⟩, hM3, ((hLs.go hig).come hmok hk ⟨u, hu, .inl ⟨o2, by omega, rfl⟩⟩).next (by rw [comeL_pre hig]; exact hk) (fun k2 he2 => by rw [eps_succs hmok hu, succs, if_pos o2, if_pos (by omega)] at he2; first | exact he2 | (simpa using he2)), (hD.mono (fun j hj => comeL_pre (by omega))).no (by rw [comeL_pre hig]; exact hk) hu (by omega), hel⟩ (by dsimp only; have := hM.big; omega) sbA (by (try dsimp only); (try simp only [List.append_assoc, List.cons_append, List.nil_append]); exact hzB))
      ·
       refine o_step rfl (step_cast (v' := .bool false) (s_eql rfl rfl) (by rw [decide_eq_false (by omega)])) ?_
       refine o_nil ?_
       refine x_then (hK22 _ _ ?_)
       refine c_false rfl ?_
       refine c_skip ?_
       refine x_block ?_
       refine x_block ?_
       refine x_then (hK17 _ _ ?_)
       refine c_region ?_
       refine o_step rfl (s_move rfl) ?_
       refine o_step rfl (s_add rfl rfl (by omega)) ?_
       refine o_step rfl (s_assign rfl) ?_
       refine o_nil ?_
       exact x_then (x_inv (i + 1, g) ⟨by dsimp only; omega, ⟨hT, hl, hW, hE, ⟨h0, h1⟩, hwl2⟩, hM, (hLs.go hig).next hk (fun k2 he2 => by rw [eps_succs hmok hu, succs, if_pos o2, if_neg (by omega)] at he2; first | exact he2 | (simpa using he2)), hD.no hk hu (by omega), hel⟩ (by dsimp only; have := hM.big; omega) sbA hzB)
     ·
      refine o_step rfl (step_cast (v' := .bool false) (s_eql rfl rfl) (by rw [decide_eq_false o2])) ?_
      refine o_step rfl (s_assign rfl) ?_
      refine o_nil ?_
      refine x_then (hK21 _ _ ?_)
      refine c_false rfl ?_
      refine c_seq fun _ hK23 => ?_
      refine c_region ?_
      by_cases o3 : u.op = 3
      ·
       refine o_step rfl (step_cast (v' := .bool true) (s_eql rfl rfl) (by rw [decide_eq_true o3])) ?_
       refine o_step rfl (s_assign rfl) ?_
       refine o_nil ?_
       refine x_then (hK23 _ _ ?_)
       refine c_true rfl ?_
       refine c_seq fun _ hK24 => ?_
       refine c_region ?_
       refine o_step rfl (s_move rfl) ?_
       refine o_step rfl (s_move rfl) ?_
       refine o_step rfl (s_len rfl) ?_
       by_cases hpe : (p : Int) = w.length
       ·
        refine o_step rfl (step_cast (v' := .bool true) (s_eql rfl rfl) (by rw [decide_eq_true (by omega)])) ?_
        refine o_nil ?_
        refine x_then (hK24 _ _ ?_)
        refine c_true rfl ?_
        refine c_region ?_
        refine o_step rfl (s_move rfl) ?_
        refine o_step rfl (s_move rfl) ?_
        refine o_step rfl (s_move rfl) ?_
        refine o_step rfl (s_nil rfl) ?_
        refine o_step rfl (s_field rfl rfl (by decide)) ?_
        refine o_step rfl (s_ld rfl (.own meA rfl)) ?_
        refine o_step rfl (s_move rfl) ?_
        refine o_step rfl (s_add rfl rfl (by omega)) ?_
        refine o_call (come_fn bS ma mc m hml ta tc ((.slice g.ha g.l.length g.hc)) ((.slice g.wa g.wl.length g.wc)) (.slice ea (w.length + 1) ec) g.st g.steps g.mt g.St hT g.ha g.hc g.l g.Sh hl hM h0 (k + 1) (huk.2 (by omega))) rfl rfl rfl ((Pick.takeC pkA (Pick.takeA pkA pkA))) (fun _ _ => trivial) (fun v122 S122 ⟨a3, c3, mt3, St3, Sl3, sp3, hv122, hS122, hT3, hl3, hM3⟩ => ?_)
        subst hv122
        subst hS122
        refine o_step rfl (s_nil rfl) ?_
        refine o_step rfl (s_field rfl rfl (by decide)) ?_
        refine o_store rfl rfl rfl upA ltA rfl ?_
        refine o_nil ?_
        refine x_block ?_
        refine x_block ?_
        refine x_then (hK17 _ _ ?_)
        refine c_region ?_
        refine o_step rfl (s_move rfl) ?_
        refine o_step rfl (s_add rfl rfl (by omega)) ?_
        refine o_step rfl (s_assign rfl) ?_
        refine o_nil ?_
        exact x_then (x_inv (i + 1, ⟨g.st, sp3, g.last, mt3, a3, c3, comeL g.l (k + 1), g.wa, g.wc, g.wl, g.es, St3, Sl3, g.Sw, g.Se⟩) ⟨by dsimp only; have := (comeL_len (l := g.l) (k := (k + 1))).1; omega, ⟨hT3, hl3, hW, hE, ⟨h0, h1⟩, hwl2⟩, hM3, ((hLs.go hig).come hmok hk ⟨u, hu, .inr (.inl ⟨o3, by omega, rfl⟩)⟩).next (by rw [comeL_pre hig]; exact hk) (fun k2 he2 => by rw [eps_succs hmok hu, succs, if_neg o2, if_pos o3, if_pos (by omega)] at he2; first | exact he2 | (simpa using he2)), (hD.mono (fun j hj => comeL_pre (by omega))).no (by rw [comeL_pre hig]; exact hk) hu (by omega), hel⟩ (by dsimp only; have := hM.big; omega) sbA (by (try dsimp only); (try simp only [List.append_assoc, List.cons_append, List.nil_append]); exact hzB))
       ·
        refine o_step rfl (step_cast (v' := .bool false) (s_eql rfl rfl) (by rw [decide_eq_false (by omega)])) ?_
        refine o_nil ?_
        refine x_then (hK24 _ _ ?_)
        refine c_false rfl ?_
        refine c_skip ?_
        refine x_block ?_
        refine x_block ?_
        refine x_then (hK17 _ _ ?_)
        refine c_region ?_
        refine o_step rfl (s_move rfl) ?_
        refine o_step rfl (s_add rfl rfl (by omega)) ?_
        refine o_step rfl (s_assign rfl) ?_
        refine o_nil ?_
        exact x_then (x_inv (i + 1, g) ⟨by dsimp only; omega, ⟨hT, hl, hW, hE, ⟨h0, h1⟩, hwl2⟩, hM, (hLs.go hig).next hk (fun k2 he2 => by rw [eps_succs hmok hu, succs, if_neg o2, if_pos o3, if_neg (by omega)] at he2; first | exact he2 | (simpa using he2)), hD.no hk hu (by omega), hel⟩ (by dsimp only; have := hM.big; omega) sbA hzB)
      ·
       refine o_step rfl (step_cast (v' := .bool false) (s_eql rfl rfl) (by rw [decide_eq_false o3])) ?_
       refine o_step rfl (s_assign rfl) ?_
       refine o_nil ?_
       refine x_then (hK23 _ _ ?_)
       refine c_false rfl ?_
       refine c_seq fun _ hK25 => ?_
       refine c_region ?_
       by_cases o4 : u.op = 4
       ·
        refine o_step rfl (step_cast (v' := .bool true) (s_eql rfl rfl) (by rw [decide_eq_true o4])) ?_
        refine o_step rfl (s_assign rfl) ?_
        refine o_nil ?_
        refine x_then (hK25 _ _ ?_)
        refine c_true rfl ?_
        refine c_drawE ((bS, .cells [.slice ma m.length mc, .slice ta m.length tc, .int .i16 g.st, (.slice g.ha g.l.length g.hc), (.slice g.wa g.wl.length g.wc), .slice ea (w.length + 1) ec, .int .i64 g.steps].toArray 154 (0, 0)) :: Sm) (fun i => Nat.beq i 10 || Nat.beq i 11 || Nat.beq i 12 || Nat.beq i 13) ?_
        refine e_pr 0 rfl (s_move rfl) ?_
        refine e_pr 1 rfl (s_move rfl) ?_
        refine e_pr 2 rfl (s_move rfl) ?_
        refine e_pr 3 rfl (s_nil rfl) ?_
        refine e_pr 4 rfl (s_field rfl rfl (by decide)) ?_
        refine e_tk 5 rfl hzB (s_ld rfl (.own meA rfl)) ?_
        refine e_pr 6 rfl (s_move rfl) ?_
        refine e_pr 7 rfl (s_nil rfl) ?_
        refine e_pr 8 rfl (s_field rfl rfl (by decide)) ?_
        refine e_tk 9 rfl hzB (step_cast (v' := .int .i64 (u.x.toNat : Int)) (s_ld rfl ((hm.rdk hiA).ld k 5 hu rfl (by decide) (by omega))) (congrArg (Value.int .i64) (by have := huk.1.2.2.1.1; omega))) ?_
        refine e_one 10 rfl (by kernel_rfl) ?_
        refine o_call (come_fn bS ma mc m hml ta tc ((.slice g.ha g.l.length g.hc)) ((.slice g.wa g.wl.length g.wc)) (.slice ea (w.length + 1) ec) g.st g.steps g.mt g.St hT g.ha g.hc g.l g.Sh hl hM h0 u.x.toNat (by have := huk.1.2.2.1.2; rw [if_pos (by omega)] at this; omega)) rfl rfl rfl ((Pick.takeC pkA (Pick.takeA pkA pkA))) (fun _ _ => trivial) (fun v137 S137 ⟨a3, c3, mt3, St3, Sl3, sp3, hv137, hS137, hT3, hl3, hM3⟩ => ?_)
        subst hv137
        subst hS137
        refine o_nil ?_
        refine x_oneL rfl ?_
        refine e_one 11 rfl (by kernel_rfl) ?_
        refine o_step rfl (s_nil rfl) ?_
        refine o_nil ?_
        refine x_oneL rfl ?_
        refine e_one 12 rfl (by kernel_rfl) ?_
        refine o_step rfl (s_field rfl rfl (by decide)) ?_
        refine o_nil ?_
        refine x_oneL rfl ?_
        refine e_one 13 rfl (by kernel_rfl) ?_
        refine o_store rfl rfl rfl upA ltA rfl ?_
        refine o_nil ?_
        refine x_oneL rfl ?_
        refine e_done (by kernel_rfl) ?_
        refine x_block ?_
        refine x_block ?_
        refine x_then (hK17 _ _ ?_)
        refine c_region ?_
        refine o_step rfl (s_move rfl) ?_
        refine o_step rfl (s_add rfl rfl (by omega)) ?_
        refine o_step rfl (s_assign rfl) ?_
        refine o_nil ?_
        exact x_then (x_inv (i + 1, ⟨g.st, sp3, g.last, mt3, a3, c3, comeL g.l u.x.toNat, g.wa, g.wc, g.wl, g.es, St3, Sl3, g.Sw, g.Se⟩) ⟨by dsimp only; have := (comeL_len (l := g.l) (k := u.x.toNat)).1; omega, ⟨hT3, hl3, hW, hE, ⟨h0, h1⟩, hwl2⟩, hM3, ((hLs.go hig).come hmok hk ⟨u, hu, .inr (.inr (.inl ⟨o4, by omega⟩))⟩).next (by rw [comeL_pre hig]; exact hk) (fun k2 he2 => by rw [eps_succs hmok hu, succs, if_neg o2, if_neg o3, if_pos o4] at he2; first | exact he2 | (simpa using he2)), (hD.mono (fun j hj => comeL_pre (by omega))).no (by rw [comeL_pre hig]; exact hk) hu (by omega), hel⟩ (by dsimp only; have := hM.big; omega) sbA (by (try dsimp only); (try simp only [List.append_assoc, List.cons_append, List.nil_append]); exact hzB))
       ·
        refine o_step rfl (step_cast (v' := .bool false) (s_eql rfl rfl) (by rw [decide_eq_false o4])) ?_
        refine o_step rfl (s_assign rfl) ?_
        refine o_nil ?_
        refine x_then (hK25 _ _ ?_)
        refine c_false rfl ?_
        refine c_seq fun _ hK26 => ?_
        refine c_region ?_
        by_cases o5 : u.op = 5
        ·
         refine o_step rfl (step_cast (v' := .bool true) (s_eql rfl rfl) (by rw [decide_eq_true o5])) ?_
         refine o_step rfl (s_assign rfl) ?_
         refine o_nil ?_
         refine x_then (hK26 _ _ ?_)
         refine c_true rfl ?_
         refine c_seq fun _ hK27 => ?_
         refine c_drawE ((bS, .cells [.slice ma m.length mc, .slice ta m.length tc, .int .i16 g.st, (.slice g.ha g.l.length g.hc), (.slice g.wa g.wl.length g.wc), .slice ea (w.length + 1) ec, .int .i64 g.steps].toArray 154 (0, 0)) :: Sm) (fun i => Nat.beq i 10 || Nat.beq i 11 || Nat.beq i 12 || Nat.beq i 13) ?_
         refine e_pr 0 rfl (s_move rfl) ?_
         refine e_pr 1 rfl (s_move rfl) ?_
         refine e_pr 2 rfl (s_move rfl) ?_
         refine e_pr 3 rfl (s_nil rfl) ?_
         refine e_pr 4 rfl (s_field rfl rfl (by decide)) ?_
         refine e_tk 5 rfl hzB (s_ld rfl (.own meA rfl)) ?_
         refine e_pr 6 rfl (s_move rfl) ?_
         refine e_pr 7 rfl (s_nil rfl) ?_
         refine e_pr 8 rfl (s_field rfl rfl (by decide)) ?_
         refine e_tk 9 rfl hzB (step_cast (v' := .int .i64 (u.x.toNat : Int)) (s_ld rfl ((hm.rdk hiA).ld k 5 hu rfl (by decide) (by omega))) (congrArg (Value.int .i64) (by have := huk.1.2.2.1.1; omega))) ?_
         refine e_one 10 rfl (by kernel_rfl) ?_
         refine o_call (come_fn bS ma mc m hml ta tc ((.slice g.ha g.l.length g.hc)) ((.slice g.wa g.wl.length g.wc)) (.slice ea (w.length + 1) ec) g.st g.steps g.mt g.St hT g.ha g.hc g.l g.Sh hl hM h0 u.x.toNat (by have := huk.1.2.2.1.2; rw [if_pos (by omega)] at this; omega)) rfl rfl rfl ((Pick.takeC pkA (Pick.takeA pkA pkA))) (fun _ _ => trivial) (fun v152 S152 ⟨a3, c3, mt3, St3, Sl3, sp3, hv152, hS152, hT3, hl3, hM3⟩ => ?_)
         subst hv152
         subst hS152
         refine o_nil ?_
         refine x_oneL rfl ?_
         refine e_one 11 rfl (by kernel_rfl) ?_
         refine o_step rfl (s_nil rfl) ?_
         refine o_nil ?_
         refine x_oneL rfl ?_
         refine e_one 12 rfl (by kernel_rfl) ?_
         refine o_step rfl (s_field rfl rfl (by decide)) ?_
         refine o_nil ?_
         refine x_oneL rfl ?_
         refine e_one 13 rfl (by kernel_rfl) ?_
         refine o_store rfl rfl rfl upA ltA rfl ?_
         refine o_nil ?_
         refine x_oneL rfl ?_
         refine e_done (by kernel_rfl) ?_
         refine x_then (hK27 _ _ ?_)
         refine c_drawE ((bS, .cells [.slice ma m.length mc, .slice ta m.length tc, .int .i16 g.st, (.slice a3 (comeL g.l u.x.toNat).length c3), (.slice g.wa g.wl.length g.wc), .slice ea (w.length + 1) ec, .int .i64 sp3].toArray 154 (0, 0)) :: Sm) (fun i => Nat.beq i 10 || Nat.beq i 11 || Nat.beq i 12 || Nat.beq i 13) ?_
         refine e_pr 0 rfl (s_move rfl) ?_
         refine e_pr 1 rfl (s_move rfl) ?_
         refine e_pr 2 rfl (s_move rfl) ?_
         refine e_pr 3 rfl (s_nil rfl) ?_
         refine e_pr 4 rfl (s_field rfl rfl (by decide)) ?_
         refine e_tk 5 rfl hzB (s_ld rfl (.own meA rfl)) ?_
         refine e_pr 6 rfl (s_move rfl) ?_
         refine e_pr 7 rfl (s_nil rfl) ?_
         refine e_pr 8 rfl (s_field rfl rfl (by decide)) ?_
         refine e_tk 9 rfl hzB (step_cast (v' := .int .i64 (u.y.toNat : Int)) (s_ld rfl ((hm.rdk hiA).ld k 6 hu rfl (by decide) (by omega))) (congrArg (Value.int .i64) (by have := huk.1.2.2.2.1; omega))) ?_
         refine e_one 10 rfl (by kernel_rfl) ?_
         refine o_call (come_fn bS ma mc m hml ta tc ((.slice a3 (comeL g.l u.x.toNat).length c3)) ((.slice g.wa g.wl.length g.wc)) (.slice ea (w.length + 1) ec) g.st sp3 mt3 St3 hT3 a3 c3 (comeL g.l u.x.toNat) Sl3 hl3 hM3 h0 u.y.toNat (by have := huk.1.2.2.2.2; rw [if_pos (by omega)] at this; omega)) rfl rfl rfl ((Pick.takeC pkA (Pick.takeA pkA pkA))) (fun _ _ => trivial) (fun v165 S165 ⟨a4, c4, mt4, St4, Sl4, sp4, hv165, hS165, hT4, hl4, hM4⟩ => ?_)
         subst hv165
         subst hS165
         refine o_nil ?_
         refine x_oneL rfl ?_
         refine e_one 11 rfl (by kernel_rfl) ?_
         refine o_step rfl (s_nil rfl) ?_
         refine o_nil ?_
         refine x_oneL rfl ?_
         refine e_one 12 rfl (by kernel_rfl) ?_
         refine o_step rfl (s_field rfl rfl (by decide)) ?_
         refine o_nil ?_
         refine x_oneL rfl ?_
         refine e_one 13 rfl (by kernel_rfl) ?_
         refine o_store rfl rfl rfl upA ltA rfl ?_
         refine o_nil ?_
         refine x_oneL rfl ?_
         refine e_done (by kernel_rfl) ?_
         refine x_block ?_
         refine x_block ?_
         refine x_then (hK17 _ _ ?_)
         refine c_region ?_
         refine o_step rfl (s_move rfl) ?_
         refine o_step rfl (s_add rfl rfl (by omega)) ?_
         refine o_step rfl (s_assign rfl) ?_
         refine o_nil ?_
         exact x_then (x_inv (i + 1, ⟨g.st, sp4, g.last, mt4, a4, c4, comeL (comeL g.l u.x.toNat) u.y.toNat, g.wa, g.wc, g.wl, g.es, St4, Sl4, g.Sw, g.Se⟩) ⟨by dsimp only; have := (comeL_len (l := g.l) (k := u.x.toNat)).1; have := (comeL_len (l := comeL g.l u.x.toNat) (k := u.y.toNat)).1; omega, ⟨hT4, hl4, hW, hE, ⟨h0, h1⟩, hwl2⟩, hM4, (((hLs.go hig).come hmok hk ⟨u, hu, .inr (.inr (.inr ⟨o5, .inl (by omega)⟩))⟩).come hmok (by rw [comeL_pre hig]; exact hk) ⟨u, hu, .inr (.inr (.inr ⟨o5, .inr (by omega)⟩))⟩).next (by rw [comeL_pre (Nat.lt_of_lt_of_le hig comeL_len.1), comeL_pre hig]; exact hk) (fun k2 he2 => by rw [eps_succs hmok hu, succs, if_neg o2, if_neg o3, if_neg o4, if_pos o5] at he2; simp only [List.mem_cons, List.not_mem_nil, or_false] at he2 ⊢; exact he2.symm), (hD.mono (fun j hj => by rw [comeL_pre (Nat.lt_of_lt_of_le (by omega) comeL_len.1), comeL_pre (by omega)])).no (by rw [comeL_pre (Nat.lt_of_lt_of_le hig comeL_len.1), comeL_pre hig]; exact hk) hu (by omega), hel⟩ (by dsimp only; have := hM.big; omega) sbA (by (try dsimp only); (try simp only [List.append_assoc, List.cons_append, List.nil_append]); exact hzB))
        ·
         refine o_step rfl (step_cast (v' := .bool false) (s_eql rfl rfl) (by rw [decide_eq_false o5])) ?_
         refine o_step rfl (s_assign rfl) ?_
         refine o_nil ?_
         refine x_then (hK26 _ _ ?_)
         refine c_false rfl ?_
         refine c_seq fun _ hK28 => ?_
         refine c_region ?_
         by_cases o6 : u.op = 6
         ·
          refine o_step rfl (step_cast (v' := .bool true) (s_eql rfl rfl) (by rw [decide_eq_true o6])) ?_
          refine o_step rfl (s_assign rfl) ?_
          refine o_nil ?_
          refine x_then (hK28 _ _ ?_)
          refine c_true rfl ?_
          refine c_seq fun _ hK29 => ?_
          refine c_region ?_
          refine o_step rfl (s_move rfl) ?_
          refine o_step rfl (s_nil rfl) ?_
          refine o_step rfl (s_field rfl rfl (by decide)) ?_
          refine o_step rfl (s_ld rfl (.own meA rfl)) ?_
          refine o_step rfl (s_move rfl) ?_
          refine o_step rfl (s_idx rfl rfl (by have h := hE.sl; rw [hel] at h; exact h) (by omega)) ?_
          refine o_stS1 p true hE pkA rfl rfl rfl (by rw [hel]; omega) (by omega) fun S' hS' => ?_
          refine o_nil ?_
          refine x_then (hK29 _ _ ?_)
          refine c_region ?_
          refine o_step rfl (s_move rfl) ?_
          refine o_step rfl (s_assign rfl) ?_
          refine o_nil ?_
          refine x_block ?_
          refine x_block ?_
          refine x_then (hK17 _ _ ?_)
          refine c_region ?_
          refine o_step rfl (s_move rfl) ?_
          refine o_step rfl (s_add rfl rfl (by omega)) ?_
          refine o_step rfl (s_assign rfl) ?_
          refine o_nil ?_
          exact x_then (x_inv (i + 1, ⟨g.st, g.steps, (p : Int), g.mt, g.ha, g.hc, g.l, g.wa, g.wc, g.wl, g.es.set p true, g.St, g.Sh, g.Sw, S'⟩) ⟨by dsimp only; omega, ⟨hT, hl, hW, hS', ⟨h0, h1⟩, hwl2⟩, hM, (hLs.go hig).next hk (fun k2 he2 => by rw [eps_succs hmok hu, succs, if_neg o2, if_neg o3, if_neg o4, if_neg o5] at he2; first | exact he2 | (simpa using he2)), hD.yes hk hu o6, by dsimp only; rw [List.length_set]; exact hel⟩ (by dsimp only; have := hM.big; omega) sbA (by (try dsimp only); (try simp only [List.append_assoc, List.cons_append, List.nil_append]); exact hzB))
         ·
          refine o_step rfl (step_cast (v' := .bool false) (s_eql rfl rfl) (by rw [decide_eq_false o6])) ?_
          refine o_step rfl (s_assign rfl) ?_
          refine o_nil ?_
          refine x_then (hK28 _ _ ?_)
          refine c_false rfl ?_
          refine c_skip ?_
          refine x_block ?_
          refine x_block ?_
          refine x_then (hK17 _ _ ?_)
          refine c_region ?_
          refine o_step rfl (s_move rfl) ?_
          refine o_step rfl (s_add rfl rfl (by omega)) ?_
          refine o_step rfl (s_assign rfl) ?_
          refine o_nil ?_
          exact x_then (x_inv (i + 1, g) ⟨by dsimp only; omega, ⟨hT, hl, hW, hE, ⟨h0, h1⟩, hwl2⟩, hM, (hLs.go hig).next hk (fun k2 he2 => by rw [eps_succs hmok hu, succs, if_neg o2, if_neg o3, if_neg o4, if_neg o5] at he2; first | exact he2 | (simpa using he2)), hD.no hk hu (by omega), hel⟩ (by dsimp only; have := hM.big; omega) sbA hzB)
    ·
     have hie : g.l.length ≤ i := by omega
     have hrun : ∀ k, k ∈ g.l ↔ Run m w (0, f) (k, p) := fun k => (hLs.done hie k).trans (run_base2 hfp).symm
     have hEd := hE2.done hD hie hfp hpn hrun
     obtain ⟨g1, hg1⟩ : ∃ g1, g1 = g := ⟨_, rfl⟩
     subst hg1
     refine o_step rfl (step_cast (v' := .bool false) (s_lss rfl rfl) (by rw [decide_eq_false (by omega)])) ?_
     refine o_nil ?_
     refine x_then (hK16 _ _ ?_)
     refine c_false rfl ?_
     refine c_exit ?_
     refine x_then_exit ?_
     refine x_then_exit ?_
     refine x_block_exit ?_
     refine x_then (hK13 _ _ ?_)
     refine c_seq fun _ hK30 => ?_
     refine c_seq fun _ hK31 => ?_
     refine c_region ?_
     refine o_step rfl (s_move rfl) ?_
     refine o_step rfl (s_move rfl) ?_
     refine o_step rfl (s_len rfl) ?_
     by_cases hpe : (p : Int) = w.length
     ·
      obtain rfl : p = w.length := by omega
      refine o_step rfl (step_cast (v' := .bool true) (s_eql rfl rfl) (by rw [decide_eq_true (by omega)])) ?_
      refine o_nil ?_
      refine x_then (hK31 _ _ ?_)
      refine c_true rfl ?_
      refine c_exit ?_
      refine x_then_exit ?_
      refine x_block_pass rfl ?_
      refine x_then_exit ?_
      refine x_then_exit ?_
      refine x_block_exit ?_
      refine x_then (hK8 _ _ ?_)
      refine c_seq fun _ hK32 => ?_
      refine c_region ?_
      refine o_step rfl (s_move rfl) ?_
      refine o_step rfl (s_assign rfl) ?_
      refine o_nil ?_
      refine x_then (hK32 _ _ ?_)
      refine c_ret ?_
      refine ?_
      refine x_sub (Sub.refl _) (H' := (bS, .cells [.slice ma m.length mc, .slice ta m.length tc, .int .i16 g1.st, (.slice g1.ha g1.l.length g1.hc), (.slice g1.wa g1.wl.length g1.wc), .slice ea (w.length + 1) ec, .int .i64 g1.steps].toArray 154 (0, 0)) :: (Sm ++ (g1.St ++ (g1.Sh ++ (g1.Sw ++ g1.Se))))) hzB ?_
      exact x_ret rfl (.tmp rfl (.nil)) (⟨g1.es, g1.last, rfl, ⟨ma, mc, ta, tc, g1, g1.l, ea, ec, Sm, by rw [hel], hm, hT, hM, ⟨h0, h1⟩, hl, hW, by rw [hel]; exact hE, .inl hel, hM.big, hwl2⟩, hEd⟩)
     ·
      refine o_step rfl (step_cast (v' := .bool false) (s_eql rfl rfl) (by rw [decide_eq_false (by omega)])) ?_
      refine o_nil ?_
      refine x_then (hK31 _ _ ?_)
      refine c_false rfl ?_
      refine c_skip ?_
      refine x_then (hK30 _ _ ?_)
      refine c_seq fun _ hK33 => ?_
      refine c_region ?_
      refine o_step rfl (s_move rfl) ?_
      refine o_call (fresh_fn bS ma mc m ta tc (.slice g1.ha g1.l.length g1.hc) (.slice g1.wa g1.wl.length g1.wc) (.slice ea (w.length + 1) ec) g1.st g1.steps g1.mt g1.St hT g1.l hM h0 h1) rfl rfl rfl ((Pick.takeC pkA pkA)) (fun _ _ => trivial) (fun v182 S182 ⟨mt5, St5, st5, hS182, hT5, hM5, h05, h15⟩ => ?_)
      subst hS182
      refine o_nil ?_
      refine x_then (hK33 _ _ ?_)
      refine c_seq fun _ hK34 => ?_
      refine c_region ?_
      refine o_step rfl (s_move rfl) ?_
      refine o_step rfl (s_move rfl) ?_
      refine o_step rfl (s_nil rfl) ?_
      refine o_step rfl (s_field rfl rfl (by decide)) ?_
      refine o_step rfl (s_ld rfl (.own meA rfl)) ?_
      refine o_step rfl (step_cast (v' := .slice g1.wa ([] : List Nat).length g1.wc) (s_slice_hi rfl rfl (by omega)) rfl) ?_
      have hW2 := hW.pre 0 (Nat.zero_le _)
      rw [List.take_zero] at hW2
      refine o_step rfl (s_nil rfl) ?_
      refine o_step rfl (s_field rfl rfl (by decide)) ?_
      refine o_store rfl rfl rfl upA ltA rfl ?_
      refine o_nil ?_
      refine x_then (hK34 _ _ ?_)
      refine c_seq fun _ hK35 => ?_
      refine c_seq fun _ hK36 => ?_
      refine c_region ?_
      refine o_step rfl (s_move rfl) ?_
      refine o_step rfl (s_nil rfl) ?_
      refine o_step rfl (s_field rfl rfl (by decide)) ?_
      refine o_step rfl (s_ld rfl (.own meA rfl)) ?_
      refine o_step rfl (s_len rfl) ?_
      refine o_step rfl (s_move rfl) ?_
      refine o_nil ?_
      refine x_then (hK36 _ _ ?_)
      refine c_block ?_
      refine c_loop2 (fun (j : Nat) (g2 : FrG) => j ≤ g1.l.length ∧ OwnS Es16 1 152 (.slice ta m.length tc) g2.mt g2.St ∧ OwnS Eix 1 3 (.slice g2.wa g2.wl.length g2.wc) g2.wl g2.Sw ∧ OwnS Ebo 1 4 (.slice ea (w.length + 1) ec) g2.es g2.Se ∧ (0 ≤ g2.st ∧ g2.st ≤ 32767) ∧ MetOk g2.mt g2.st g2.wl m.length ∧ (∀ k, k ∈ g2.wl ↔ wayB m w p g1.l j k) ∧ g2.es = g1.es ∧ g2.last = g1.last) (fun (j : Nat) (g2 : FrG) => [(196, .int .i64 j)]) [(0, _), (1, _), (6, _), (7, _), (8, _), (9, _), (59, _), (60, _), (61, _), (62, _), (63, _), (64, _), (67, _), (68, _), (69, _), (70, _), (71, _), (72, _), (73, _), (177, _), (178, _), (179, _), (180, _), (181, _), (183, _), (184, _), (185, _), (186, _), (187, _), (188, _), (189, _), (190, _), (191, _), (192, _), (193, _), (194, _), (195, _)] (fun (j : Nat) (g2 : FrG) => (bS, .cells [.slice ma m.length mc, .slice ta m.length tc, .int .i16 g2.st, (.slice g1.ha g1.l.length g1.hc), (.slice g2.wa g2.wl.length g2.wc), .slice ea (w.length + 1) ec, .int .i64 g2.steps].toArray 154 (0, 0)) :: (Sm ++ (g2.St ++ (g1.Sh ++ (g2.Sw ++ g2.Se))))) (fun (j : Nat) (g2 : FrG) => g1.l.length - j) 0 ⟨st5, g1.steps, g1.last, mt5, none, 0, [], g1.wa, g1.wc, [], g1.es, St5, [], g1.Sw, g1.Se⟩ ⟨Nat.zero_le _, hT5, hW2, hE, ⟨h05, h15⟩, hM5, fun k => ⟨fun h => (by cases h), fun h => absurd h wayB_zero⟩, rfl, rfl⟩ sbA sbA hzB ?_
      rintro j g2 ⟨hj2, hT6, hW6, hE6, ⟨h06, h16⟩, hM6, hwb, hg2e, hg2l⟩
      refine c_seq fun _ hK37 => ?_
      refine c_region ?_
      by_cases hjl : (j : Int) < g1.l.length
      ·
       obtain ⟨k, hk⟩ : ∃ k, g1.l[j]? = some k := ⟨_, List.getElem?_eq_getElem (by omega)⟩
       have hkm := hLs.lt k (List.mem_of_getElem? hk)
       obtain ⟨u, hu⟩ : ∃ u, m[k]? = some u := ⟨_, List.getElem?_eq_getElem hkm⟩
       have hum := hmr u (List.mem_of_getElem? hu)
       have huk := hmok.2.2 k u hu
       obtain ⟨b, hb⟩ : ∃ b, w[p]? = some b := ⟨_, List.getElem?_eq_getElem (by omega)⟩
       have hgb := hM.big
       have hjk : j < 70000 := by omega
       refine o_step rfl (step_cast (v' := .bool true) (s_lss rfl rfl) (by rw [decide_eq_true (by omega)])) ?_
       refine o_nil ?_
       refine x_then (hK37 _ _ ?_)
       refine c_seq fun _ hK38 => ?_
       refine c_true rfl ?_
       refine c_skip ?_
       refine x_then (hK38 _ _ ?_)
       refine c_seq fun _ hK39 => ?_
       refine c_block ?_
       refine c_seq fun _ hK40 => ?_
       refine c_region ?_
       refine o_step rfl (s_idx rfl rfl hl.sl (by omega)) ?_
       refine o_step rfl (s_ld rfl ((hl.rdk hiA).ld j 0 hk rfl (by decide) (by omega))) ?_
       refine o_step rfl (s_assign rfl) ?_
       refine o_nil ?_
       refine x_then (hK40 _ _ ?_)
       refine c_seq fun _ hK41 => ?_
       refine c_region ?_
       refine o_step rfl (s_move rfl) ?_
       refine o_step rfl (s_nil rfl) ?_
       refine o_step rfl (s_field rfl rfl (by decide)) ?_
       refine o_step rfl (s_ld rfl (.own meA rfl)) ?_
       refine o_step rfl (s_move rfl) ?_
       refine o_step rfl (s_idx rfl rfl hms (by omega)) ?_
       refine o_step rfl (s_assign rfl) ?_
       refine o_nil ?_
       refine x_then (hK41 _ _ ?_)
       refine c_seq fun _ hK42 => ?_
       refine c_drawE (Sm) (fun i => false) ?_
       refine e_tk 0 rfl hzB (s_move rfl) ?_
       refine e_tk 1 rfl hzB (s_nil rfl) ?_
       refine e_tk 2 rfl hzB (s_field rfl rfl (by decide)) ?_
       refine e_tk 3 rfl hzB (s_ld rfl ((hm.rdk hiA).ld k 0 hu rfl (by decide) (by omega))) ?_
       by_cases o1 : u.op = 1
       ·
        refine e_tk 4 rfl hzB (step_cast (v' := .bool true) (s_eql rfl rfl) (by rw [decide_eq_true o1])) ?_
        refine e_tk 5 rfl hzB (s_move rfl) ?_
        refine e_take 6 rfl (by kernel_rfl) (by kernel_rfl) (by kernel_rfl) (by kernel_rfl) (fun _ fr => by rw [wanted_of fr rfl rfl rfl]; rfl) rfl hzB (s_move rfl) ?_
        refine e_take 7 rfl (by kernel_rfl) (by kernel_rfl) (by kernel_rfl) (by kernel_rfl) (fun _ fr => by rw [wanted_of fr rfl rfl rfl]; rfl) rfl hzB (s_nil rfl) ?_
        refine e_take 8 rfl (by kernel_rfl) (by kernel_rfl) (by kernel_rfl) (by kernel_rfl) (fun _ fr => by rw [wanted_of fr rfl rfl rfl]; rfl) rfl hzB (s_field rfl rfl (by decide)) ?_
        refine e_take 9 rfl (by kernel_rfl) (by kernel_rfl) (by kernel_rfl) (by kernel_rfl) (fun _ fr => by rw [wanted_of fr rfl rfl rfl]; rfl) rfl hzB (s_ldB rfl (cels_set (hm.rdk hiA) hu (by omega)) (by rfl)) ?_
        refine e_take 10 rfl (by kernel_rfl) (by kernel_rfl) (by kernel_rfl) (by kernel_rfl) (fun _ fr => by rw [wanted_of fr rfl rfl rfl]; rfl) rfl hzB (s_move rfl) ?_
        refine e_take 11 rfl (by kernel_rfl) (by kernel_rfl) (by kernel_rfl) (by kernel_rfl) (fun _ fr => by rw [wanted_of fr rfl rfl rfl]; rfl) rfl hzB (s_move rfl) ?_
        refine e_take 12 rfl (by kernel_rfl) (by kernel_rfl) (by kernel_rfl) (by kernel_rfl) (fun _ fr => by rw [wanted_of fr rfl rfl rfl]; rfl) rfl hzB (s_idx rfl rfl hxl (by omega)) ?_
        refine e_take 13 rfl (by kernel_rfl) (by kernel_rfl) (by kernel_rfl) (by kernel_rfl) (fun _ fr => by rw [wanted_of fr rfl rfl rfl]; rfl) rfl hzB (s_ld rfl ((RdK.old hw.1 hw.2).ld p 0 hb rfl (by decide) (by omega))) ?_
        refine e_one 14 rfl (by kernel_rfl) ?_
        refine o_yes rfl rfl ?_
        refine o_callP (has_fn u.set b.toNat b.toNat_lt) rfl rfl rfl (fun _ _ => trivial) (fun v220 hv220 => ?_)
        subst hv220
        cases hh : u.set.getLsbD b.toNat
        ·
         have hne : ¬ Eat m w k p := fun ⟨t, b2, h1, _, h3, h4⟩ => by rw [hu] at h1; cases h1; rw [hb] at h3; cases h3; rw [hh] at h4; cases h4
         refine o_nil ?_
         refine x_oneS hzB ?_
         refine e_one 15 rfl (by kernel_rfl) ?_
         refine o_step rfl (s_pick_t rfl rfl) ?_
         refine o_nil ?_
         refine x_oneS hzB ?_
         refine e_done (by kernel_rfl) ?_
         refine x_then (hK42 _ _ ?_)
         refine c_false rfl ?_
         refine c_skip ?_
         refine x_block ?_
         refine x_then (hK39 _ _ ?_)
         refine c_region ?_
         refine o_step rfl (s_add rfl rfl (by omega)) ?_
         refine o_step rfl (s_move rfl) ?_
         refine o_nil ?_
         exact x_then (x_inv (j + 1, g2) ⟨by omega, hT6, hW6, hE6, ⟨h06, h16⟩, hM6, fun k2 => by rw [hwb k2]; exact (wayB_no hk hne).symm, hg2e, hg2l⟩ (by first | omega | (dsimp only; omega)) sbA hzB)
        ·
         have hea : Eat m w k p := ⟨u, b, hu, o1, hb, hh⟩
         refine o_nil ?_
         refine x_oneS hzB ?_
         refine e_one 15 rfl (by kernel_rfl) ?_
         refine o_step rfl (s_pick_t rfl rfl) ?_
         refine o_nil ?_
         refine x_oneS hzB ?_
         refine e_done (by kernel_rfl) ?_
         refine x_then (hK42 _ _ ?_)
         refine c_true rfl ?_
         refine c_region ?_
         refine o_step rfl (s_move rfl) ?_
         refine o_step rfl (s_move rfl) ?_
         refine o_step rfl (s_move rfl) ?_
         refine o_step rfl (s_nil rfl) ?_
         refine o_step rfl (s_field rfl rfl (by decide)) ?_
         refine o_step rfl (s_ld rfl (.own meA rfl)) ?_
         refine o_step rfl (s_move rfl) ?_
         refine o_step rfl (s_add rfl rfl (by omega)) ?_
         refine o_call (come_fn bS ma mc m hml ta tc ((.slice g1.ha g1.l.length g1.hc)) ((.slice g2.wa g2.wl.length g2.wc)) (.slice ea (w.length + 1) ec) g2.st g2.steps g2.mt g2.St hT6 g2.wa g2.wc g2.wl g2.Sw hW6 hM6 h06 (k + 1) (huk.2 (by omega))) rfl rfl rfl ((Pick.takeC pkA (Pick.takeA pkA pkA))) (fun _ _ => trivial) (fun v230 S230 ⟨a7, c7, mt7, St7, Sl7, sp7, hv230, hS230, hT7, hl7, hM7⟩ => ?_)
         subst hv230
         subst hS230
         refine o_step rfl (s_nil rfl) ?_
         refine o_step rfl (s_field rfl rfl (by decide)) ?_
         refine o_store rfl rfl rfl upA ltA rfl ?_
         refine o_nil ?_
         refine x_block ?_
         refine x_then (hK39 _ _ ?_)
         refine c_region ?_
         refine o_step rfl (s_add rfl rfl (by omega)) ?_
         refine o_step rfl (s_move rfl) ?_
         refine o_nil ?_
         exact x_then (x_inv (j + 1, ⟨g2.st, sp7, g2.last, mt7, g2.ha, g2.hc, g2.l, a7, c7, comeL g2.wl (k + 1), g2.es, St7, g2.Sh, Sl7, g2.Se⟩) ⟨by omega, hT7, hl7, hE6, ⟨h06, h16⟩, hM7, fun k2 => by dsimp only; rw [comeL_mem, hwb k2]; exact (wayB_yes hk hea).symm, hg2e, hg2l⟩ (by first | omega | (dsimp only; omega)) sbA (by (try dsimp only); (try simp only [List.append_assoc, List.cons_append, List.nil_append]); exact hzB))
       ·
        have hne : ¬ Eat m w k p := fun ⟨t, b2, h1, h2, _⟩ => by rw [hu] at h1; cases h1; exact o1 h2
        refine e_tk 4 rfl hzB (step_cast (v' := .bool false) (s_eql rfl rfl) (by rw [decide_eq_false o1])) ?_
        refine e_tk 5 rfl hzB (s_move rfl) ?_
        refine e_sk 6 rfl ?_
        refine e_sk 7 rfl ?_
        refine e_sk 8 rfl ?_
        refine e_sk 9 rfl ?_
        refine e_sk 10 rfl ?_
        refine e_sk 11 rfl ?_
        refine e_sk 12 rfl ?_
        refine e_sk 13 rfl ?_
        refine e_one 14 rfl (by kernel_rfl) ?_
        refine o_no rfl rfl rfl rfl ?_
        refine o_nil ?_
        refine x_oneS hzB ?_
        refine e_one 15 rfl (by kernel_rfl) ?_
        refine o_step rfl (s_pick_f rfl rfl) ?_
        refine o_nil ?_
        refine x_oneS hzB ?_
        refine e_done (by kernel_rfl) ?_
        refine x_then (hK42 _ _ ?_)
        refine c_false rfl ?_
        refine c_skip ?_
        refine x_block ?_
        refine x_then (hK39 _ _ ?_)
        refine c_region ?_
        refine o_step rfl (s_add rfl rfl (by omega)) ?_
        refine o_step rfl (s_move rfl) ?_
        refine o_nil ?_
        exact x_then (x_inv (j + 1, g2) ⟨by omega, hT6, hW6, hE6, ⟨h06, h16⟩, hM6, fun k2 => by rw [hwb k2]; exact (wayB_no hk hne).symm, hg2e, hg2l⟩ (by first | omega | (dsimp only; omega)) sbA hzB)
      ·
       have hje : j = g1.l.length := by omega
       refine o_step rfl (step_cast (v' := .bool false) (s_lss rfl rfl) (by rw [decide_eq_false (by omega)])) ?_
       refine o_nil ?_
       refine x_then (hK37 _ _ ?_)
       refine c_seq fun _ hK43 => ?_
       refine c_false rfl ?_
       refine c_exit ?_
       refine x_then_exit ?_
       refine x_then_exit ?_
       refine x_block_exit ?_
       refine x_then (hK35 _ _ ?_)
       refine c_drawE ([(bS, .cells [.slice ma m.length mc, .slice ta m.length tc, .int .i16 g2.st, (.slice g1.ha g1.l.length g1.hc), (.slice g2.wa g2.wl.length g2.wc), .slice ea (w.length + 1) ec, .int .i64 g2.steps].toArray 154 (0, 0))]) (fun i => Nat.beq i 12 || Nat.beq i 13 || Nat.beq i 14 || Nat.beq i 15) ?_
       refine e_pr 0 rfl (s_move rfl) ?_
       refine e_pr 1 rfl (s_move rfl) ?_
       refine e_pr 2 rfl (s_move rfl) ?_
       refine e_pr 3 rfl (s_nil rfl) ?_
       refine e_pr 4 rfl (s_field rfl rfl (by decide)) ?_
       refine e_tk 5 rfl hzB (s_ld rfl (.own meA rfl)) ?_
       refine e_pr 6 rfl (s_move rfl) ?_
       refine e_pr 7 rfl (s_nil rfl) ?_
       refine e_pr 8 rfl (s_field rfl rfl (by decide)) ?_
       refine e_tk 9 rfl hzB (s_ld rfl (.own meA rfl)) ?_
       refine e_pr 10 rfl (s_nil rfl) ?_
       refine e_pr 11 rfl (s_field rfl rfl (by decide)) ?_
       refine e_one 12 rfl (by kernel_rfl) ?_
       refine o_store rfl rfl rfl upA ltA rfl ?_
       refine o_nil ?_
       refine x_oneL rfl ?_
       refine e_one 13 rfl (by kernel_rfl) ?_
       refine o_step rfl (s_nil rfl) ?_
       refine o_nil ?_
       refine x_oneL rfl ?_
       refine e_one 14 rfl (by kernel_rfl) ?_
       refine o_step rfl (s_field rfl rfl (by decide)) ?_
       refine o_nil ?_
       refine x_oneL rfl ?_
       refine e_one 15 rfl (by kernel_rfl) ?_
       refine o_store rfl rfl rfl upA ltA rfl ?_
       refine o_nil ?_
       refine x_oneL rfl ?_
       refine e_done (by kernel_rfl) ?_
       refine x_block ?_
       refine x_then (hK12 _ _ ?_)
       refine c_region ?_
       refine o_step rfl (s_move rfl) ?_
       refine o_step rfl (s_add rfl rfl (by omega)) ?_
       refine o_step rfl (s_assign rfl) ?_
       refine o_nil ?_
       exact x_then (x_inv (p + 1, ⟨g2.st, g2.steps, g1.last, g2.mt, g2.wa, g2.wc, g2.wl, g1.ha, g1.hc, g1.l, g2.es, g2.St, g2.Sw, g1.Sh, g2.Se⟩) ⟨by omega, by omega, ⟨hT6, hW6, hl, hE6, ⟨h06, h16⟩, hM.big⟩, hM6, fun k => by rw [hwb k, hje]; exact way_base hfp hrun, by dsimp only; rw [hg2e]; exact hEd⟩ (by first | omega | (dsimp only; omega)) sbA (by (try dsimp only); (try simp only [List.append_assoc, List.cons_append, List.nil_append]); exact hzB))
   ·
    have hl00 : g.l = [] := List.eq_nil_of_length_eq_zero (by omega)
    refine o_step rfl (step_cast (v' := .bool false) (s_gtr rfl rfl) (by rw [decide_eq_false (by omega)])) ?_
    refine o_nil ?_
    refine x_then (hK11 _ _ ?_)
    refine c_false rfl ?_
    refine c_exit ?_
    refine x_then_exit ?_
    refine x_then_exit ?_
    refine x_block_exit ?_
    refine x_then (hK8 _ _ ?_)
    refine c_seq fun _ hK44 => ?_
    refine c_region ?_
    refine o_step rfl (s_move rfl) ?_
    refine o_step rfl (s_assign rfl) ?_
    refine o_nil ?_
    refine x_then (hK44 _ _ ?_)
    refine c_ret ?_
    refine ?_
    have hnb : ∀ k, ¬ Base m w f p k := fun k h => by have := (hB k).2 h; rw [hl00] at this; cases this
    have hfp2 : f < p := Nat.lt_of_not_le fun h => hnb 0 (.inl ⟨by omega, rfl⟩)
    refine x_sub (Sub.refl _) (H' := (bS, .cells [.slice ma m.length mc, .slice ta m.length tc, .int .i16 g.st, (.slice g.ha g.l.length g.hc), (.slice g.wa g.wl.length g.wc), .slice ea (w.length + 1) ec, .int .i64 g.steps].toArray 154 (0, 0)) :: (Sm ++ (g.St ++ (g.Sh ++ (g.Sw ++ g.Se))))) hzB ?_
    exact x_ret rfl (.tmp rfl (.nil)) (⟨g.es, g.last, rfl, ⟨ma, mc, ta, tc, g, g.l, ea, ec, Sm, by rw [hE2l], hm, hT, hM, ⟨h0, h1⟩, hl, hW, by rw [hE2l]; exact hE, .inl hE2l, hM.big, hwl2⟩, hE2.ext (by omega) fun q hq _ => hE2.stop hnb hfp2 q hq⟩)
  ·
   intro _ hJ2
   refine c_seq fun _ hK45 => ?_
   refine c_region ?_
   refine o_step rfl (s_move rfl) ?_
   refine o_step rfl (s_nil rfl) ?_
   refine o_step rfl (s_field rfl rfl (by decide)) ?_
   refine o_step rfl (s_ld rfl (.own meA rfl)) ?_
   refine o_step rfl (s_cap rfl) ?_
   refine o_step rfl (s_move rfl) ?_
   refine o_step rfl (s_len rfl) ?_
   refine o_step rfl (s_add rfl rfl (by omega)) ?_
   by_cases hcap : (ec0 : Int) < (w.length : Int) + 1
   ·
    refine o_step rfl (step_cast (v' := .bool true) (s_lss rfl rfl) (by rw [decide_eq_true (by omega)])) ?_
    refine o_nil ?_
    refine x_then (hK45 _ _ ?_)
    refine c_true rfl ?_
    refine c_region ?_
    refine o_step rfl (s_move rfl) ?_
    refine o_step rfl (s_move rfl) ?_
    refine o_step rfl (s_len rfl) ?_
    refine o_step rfl (s_add rfl rfl (by omega)) ?_
    refine o_make (E := Ebo) (zx := false) (n := w.length + 1) rfl rfl rfl (by omega) (by omega) rfl fun b28 S28 hS28 => ?_
    refine o_step rfl (s_nil rfl) ?_
    refine o_step rfl (s_field rfl rfl (by decide)) ?_
    refine o_store rfl rfl rfl upA ltA rfl ?_
    refine o_nil ?_
    exact x_then (hJ2 (some ⟨b28, 0, none⟩, w.length + 1, w.length + 1, List.replicate (w.length + 1) false, S28) _ _ ⟨by simpa using hS28, List.length_replicate, rfl⟩ sbA sbA hzB)
   ·
    refine o_step rfl (step_cast (v' := .bool false) (s_lss rfl rfl) (by rw [decide_eq_false (by omega)])) ?_
    refine o_nil ?_
    refine x_then (hK45 _ _ ?_)
    refine c_false rfl ?_
    refine c_skip ?_
    exact x_then (hJ2 (ea0, ec0, es.length, es, g0.Se) _ _ ⟨hE0, by rcases hes with h | ⟨h1, h2⟩; (· exact h); (· subst h1; omega), by rcases hes with h | ⟨h1, h2⟩; (· exact h); (· subst h1; omega)⟩ sbA sbA hzB)
end Go.Proofs.Ytmpeokbongnniaa
