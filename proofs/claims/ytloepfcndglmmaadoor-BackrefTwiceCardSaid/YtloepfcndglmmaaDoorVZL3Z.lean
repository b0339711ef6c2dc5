/- Part of the proofs over this seat: see the text that holds the theorem. Conditions: each theorem bears its own. -/
import Derived.Test.YtloepfcndglmmaaDoorHTZ
import Derived.Test.YtloepfcndglmmaaDoorML1Z
import Derived.Test.YtloepfcndglmmaaDoorVZM12Z
import Derived.Test.YtloepfcndglmmaaDoorMK2Z
import Derived.Test.YtloepfcndglmmaaDoorVZN4Z
import Derived.Test.YtloepfcndglmmaaDoorVZN1Z
import Derived.Test.YtloepfcndglmmaaDoorVZV7Z
import Derived.Test.YtloepfcndglmmaaDoorVA2Z
import Derived.Test.YtloepfcndglmmaaDoorVZM7Z
import Derived.Test.YtloepfcndglmmaaDoorMOZ
import Derived.Test.YtloepfcndglmmaaDoorBS7Z
import Derived.Test.YtloepfcndglmmaaDoorHlB
import Derived.Test.YtloepfcndglmmaaDoorRows
import Derived.ProofKit
import Derived.LaidMore
import Derived.Stop.Joined
import Derived.Lib.LaidTab
import Derived.ChangeSame
namespace Go.Proofs.YtloepfcndglmmaaDoor
open Go Go.HL Go.Proofs Go.HL.Kl Go.HL.Kl.Mc Go.HL.Kl.Mc.AskE
theorem fromP_fn (bS : Nat) (m : List In) (w : List UInt8) (es : List Bool) (S : Hp) (h : SrE bS m w.length es S) (hmr : ∀ x ∈ m, -128 ≤ x.op ∧ x.op < 128) (hmok : MOk m) (xa : Option Addr) (xc : Nat) (hwl : w.length ≤ 1000000) (f : Nat) (hf : f ≤ w.length) : HL.Fn Tryd.prog 79 [pt bS, .slice xa w.length xc, .int .i64 f] (fun W => Rd Eb W (.slice xa w.length xc) w ∧ Apart (keys S) (.slice xa w.length xc)) S (fun v S' => ∃ es' last, v = .int .i64 last ∧ SrE bS m w.length es' S' ∧ EndsTo m w f (w.length + 1) es' last) := by
  obtain ⟨ma, mc, ta, tc, g, l1, ea, ec, Sm, rfl, hm, hT, hM, h0, hl, hW, hE, hes, hgl, hgw⟩ := h
  exact from_fn bS ma mc m ta tc g l1 ea ec es Sm hm hmr hmok hT hM h0 hl hW hE xa xc w hwl hes hgl hgw f hf
set_option maxHeartbeats 2000000 in
theorem lnew_fn (ra : Option Addr) (rc : Nat) (m : List In) : HL.Fn Tryd.prog 37 [.slice ra m.length rc] (fun W => Rd Ein W (.slice ra m.length rc) m) [] (fun v S' => (mokB m = false ∧ v = .tuple #[.pointer none, .int .i64 49]) ∨ (mokB m = true ∧ ∃ bS, v = .tuple #[pt bS, .int .i64 0] ∧ ∀ n, SrE bS m n [] S')) := by
  refine fn_of Tryd.func37 rfl rfl rfl fun w0 hw => ?_
  have hsl := hw.sl
  have hbl := hsl.le
  refine cR fun _ hK1 => ?_; refine oA (oA (oZ hK1 (c_seq fun _ hK2 => ?_))); refine cR fun _ hK3 => ?_; refine oM ?_; refine o_callP (mShaped_fn ra rc m) rfl rfl rfl (fun _ st => (RdK.old0 hw).out _ st) (fun v6 hv6 => ?_); subst hv6
  cases hmk : mokB m
  ·refine oS (s_not rfl) ?_; refine oZ hK3 ?_; refine cT (cR fun _ hK4 => ?_); refine oA (oA (oZ hK4 (c_ret ?_))); refine x_then_ret (?_); exact x_ret rfl (.tmp rfl (.tmp rfl (.nil))) (.inl ⟨hmk, rfl⟩)
  ·have hmok := mokB_iff.1 hmk
   have hml : m.length ≤ 65540 := hmok.2.1
   refine oS (s_not rfl) ?_; refine oZ hK3 ?_; refine cFZ hK2 (c_seq fun _ hK5 => ?_); refine c_drawE ([]) (fun i => false) ?_; refine e_tk 0 rfl (by exact HSub.nil) sM ?_; refine e_tk 1 rfl (by exact HSub.nil) sC ?_; refine e_tk 3 rfl (by exact HSub.nil) sM ?_; refine e_tk 4 rfl (by exact HSub.nil) sC ?_; refine e_join (ι := {g : (Nat × Hp) × (Nat × Hp) // OwnS Ein 7 119 (.slice (some ⟨g.1.1, 0, none⟩) m.length m.length) (List.replicate m.length (⟨0, 0, 0, 0⟩ : In)) g.1.2 ∧ OwnS Es16 1 126 (.slice (some ⟨g.2.1, 0, none⟩) m.length m.length) (List.replicate m.length (0 : Int)) g.2.2}) (fun g => [(10, .slice (some ⟨g.1.1.1, 0, none⟩) m.length m.length), (13, .slice (some ⟨g.1.2.1, 0, none⟩) m.length m.length)]) [(0, _), (2, _), (3, _)] (fun g => g.1.1.2 ++ g.1.2.2) 3 #[true, true, true, true, true, true, false, false, false] sbA (fun hJ => ?_) ?_
   ·refine e_any2 2 5 rfl rfl (by kernel_rfl) ?_ ?_
    ·refine o_make (E := Ein) (zx := (⟨0, 0, 0, 0⟩ : In)) (n := m.length) rfl rfl rfl (by omega) (by omega) rfl fun b10 S10 hS10 => ?_; refine o_nil ?_; refine x_oneS (by exact HSub.nil) ?_; refine eO 5 rfl ?_; refine o_make (E := Es16) (zx := (0 : Int)) (n := m.length) rfl rfl rfl (by omega) (by omega) rfl fun b13 S13 hS13 => ?_; refine o_nil ?_; refine x_oneS (by exact HSub.nil) ?_
     exact e_lst (by kernel_rfl) (hJ ⟨((b10, S10), (b13, S13)), hS10, hS13⟩ _ _ sbA sbA hzB)
    ·refine o_make (E := Es16) (zx := (0 : Int)) (n := m.length) rfl rfl rfl (by omega) (by omega) rfl fun b13 S13 hS13 => ?_; refine o_nil ?_; refine x_oneS (by exact HSub.nil) ?_; refine eO 2 rfl ?_; refine o_make (E := Ein) (zx := (⟨0, 0, 0, 0⟩ : In)) (n := m.length) rfl rfl rfl (by omega) (by omega) rfl fun b10 S10 hS10 => ?_; refine o_nil ?_; refine x_oneS (by exact HSub.nil) ?_
     exact e_lst (by kernel_rfl) (hJ ⟨((b10, S10), (b13, S13)), hS10, hS13⟩ _ _ sbA sbA hzB)
   ·rintro ⟨⟨⟨bm, Sm⟩, ⟨bt, St⟩⟩, hSm, hSt⟩
    refine eO 6 rfl ?_; refine oS (s_build (cs := [_, _, _, _, _, _, _]) (vs := [_, _]) rfl rfl (.cons rfl rfl rfl rfl rfl (.cons rfl rfl rfl rfl rfl (.nil)))) ?_; refine o_nil ?_; refine x_oneS (by exact HSub.nil) ?_; refine eO 7 rfl ?_; refine o_box rfl rfl rfl fun b15 => ?_; refine o_nil ?_; refine x_oneS (by exact HSub.nil) ?_; refine eO 8 rfl (oA (o_nil ?_)); refine x_oneS (by exact HSub.nil) ?_; refine eZ hK5 (cR fun _ hK6 => ?_); refine oM ?_; refine oS sN ?_; refine oS sF ?_; refine oS sL (oM ?_); refine o_copy hSm (RdK.old0 hw) (by simp) rfl rfl (pkA) rfl fun S21 hS21 => ?_; refine oZ hK6 (cR fun _ hK7 => ?_); refine oM (oA (oA (oZ hK7 (c_ret ?_)))); refine ?_; refine x_sub (Sub.refl _) (H' := (b15, .cells [.slice (some ⟨bm, 0, none⟩) m.length m.length, .slice (some ⟨bt, 0, none⟩) m.length m.length, .int .i16 0, .slice none 0 0, .slice none 0 0, .slice none 0 0, .int .i64 0].toArray 128 (0, 0)) :: (S21 ++ (St ++ ([] ++ ([] ++ []))))) (by simpa using hzB) ?_; exact x_ret rfl (.tmp rfl (.tmp rfl (.nil))) (.inr ⟨hmk, b15, rfl, fun n => ⟨some ⟨bm, 0, none⟩, m.length, some ⟨bt, 0, none⟩, m.length, ⟨0, 0, 0, List.replicate m.length 0, none, 0, [], none, 0, [], [], St, [], [], []⟩, List.range m.length, none, 0, S21, rfl, hS21, hSt, .start, ⟨Int.le_refl _, by show (0 : Int) ≤ 32767; decide⟩, .nil, .nil, .nil, .inr ⟨rfl, rfl⟩, Nat.zero_le _, Nat.zero_le _⟩⟩)
set_option maxHeartbeats 2000000 in
theorem endsO_fn (bS : Nat) (ma : Option Addr) (mc : Nat) (m : List In) (ta : Option Addr) (tc : Nat) (g : FrG) (l0 : List Nat) (ea : Option Addr) (ec : Nat) (es : List Bool) (Sm : Hp) (w : List UInt8) (hm : OwnS Ein 7 119 (.slice ma m.length mc) m Sm) (hT : OwnS Es16 1 126 (.slice ta m.length tc) g.mt g.St) (hM : MetOk g.mt g.st l0 m.length) (h0 : 0 ≤ g.st ∧ g.st ≤ 32767) (hl : OwnS Eix 1 3 (.slice g.ha g.l.length g.hc) g.l g.Sh) (hW : OwnS Eix 1 3 (.slice g.wa g.wl.length g.wc) g.wl g.Sw) (hE : OwnS Ebo 1 4 (.slice ea es.length ec) es g.Se) (hes : es.length = w.length + 1 ∨ (es = [] ∧ ec = 0)) (hgl : g.l.length ≤ m.length) (hgw : g.wl.length ≤ m.length) (hmr : ∀ x ∈ m, -128 ≤ x.op ∧ x.op < 128) (hmok : MOk m) (xa : Option Addr) (xc : Nat) (hwl : w.length ≤ 1000000) (f : Nat) (hf : f ≤ w.length) : HL.Fn Tryd.prog 38 [pt bS, .slice xa w.length xc, .int .i64 f] (fun W => Rd Eb W (.slice xa w.length xc) w ∧ Apart (keys ((bS, .cells [.slice ma m.length mc, .slice ta m.length tc, .int .i16 g.st, .slice g.ha g.l.length g.hc, .slice g.wa g.wl.length g.wc, .slice ea es.length ec, .int .i64 g.steps].toArray 128 (0, 0)) :: (Sm ++ (g.St ++ (g.Sh ++ (g.Sw ++ g.Se)))))) (.slice xa w.length xc)) ((bS, .cells [.slice ma m.length mc, .slice ta m.length tc, .int .i16 g.st, .slice g.ha g.l.length g.hc, .slice g.wa g.wl.length g.wc, .slice ea es.length ec, .int .i64 g.steps].toArray 128 (0, 0)) :: (Sm ++ (g.St ++ (g.Sh ++ (g.Sw ++ g.Se))))) (fun v S' => ∃ (a : Option Addr) (c : Nat) (es' : List Bool) (last : Int) (S2 S3 : Hp), v = .slice a (w.length + 1) c ∧ S' = S3 ++ S2 ∧ SrE bS m w.length es' S2 ∧ OwnS Ebo 1 4 (.slice a (w.length + 1) c) es' S3 ∧ EndsTo m w f (w.length + 1) es' last) := by
  refine fn_of Tryd.func38 rfl rfl rfl fun w0 hw => ?_
  have hxl := hw.1.sl
  have hm1 : 0 < m.length := hmok.1
  have hS0 : SrE bS m w.length es ((bS, .cells [.slice ma m.length mc, .slice ta m.length tc, .int .i16 g.st, .slice g.ha g.l.length g.hc, .slice g.wa g.wl.length g.wc, .slice ea es.length ec, .int .i64 0].toArray 128 (0, 0)) :: (Sm ++ (g.St ++ (g.Sh ++ (g.Sw ++ g.Se))))) := ⟨ma, mc, ta, tc, { g with steps := 0 }, l0, ea, ec, Sm, rfl, hm, hT, hM, h0, hl, hW, hE, hes, hgl, hgw⟩
  refine cR fun _ hK1 => ?_; refine oA (oZ hK1 (c_seq fun _ hK2 => ?_)); refine cR fun _ hK3 => ?_; refine oM ?_; refine oS (step_cast (v' := .bool false) (s_eql_nilp rfl rfl) rfl) ?_; refine oM ?_; refine oY (oM ?_); refine oY ?_; refine oS sN ?_; refine oY ?_; refine oS sF ?_; refine oY ?_; refine oS sL ?_; refine oY ?_; refine oS sC ?_; refine oY ?_; refine oS eqF ?_; refine oS sP (oZ hK3 ?_)
  refine cFZ hK2 (cR fun _ hK4 => ?_); refine oM ?_; refine oS sN ?_; refine oS sF ?_; refine o_store rfl rfl rfl upA ltA rfl ?_; refine oZ hK4 (c_seq fun _ hK5 => ?_); refine cR fun _ hK6 => ?_; refine oM ?_; refine oS lsF (oM ?_); refine oY (oM ?_); refine oY (oM ?_); refine oY ?_; refine oS sC ?_; refine oY ?_; refine oS gtF ?_; refine oS sP (oZ hK6 ?_); refine cFZ hK5 (cR fun _ hK7 => ?_); refine oM (oM (oM ?_)); refine o_call (fromP_fn bS m w es _ hS0 hmr hmok xa xc hwl f hf) rfl rfl rfl (pkA) (fun w st => ⟨(RdK.old hw.1 hw.2).out w st, St.apart_M st (by exact hiB) hw.1 hw.2 (by decide)⟩) (fun v32 S32 ⟨es2, last, hv32, hS32, hE32⟩ => ?_); subst hv32
  have hS32' := hS32
  obtain ⟨ma2, mc2, ta2, tc2, g2, l2, ea2, ec2, Sm2, rfl, hm2, hT2, hM2, h02, hl2, hW2, hE2, hes2, hgl2, hgw2⟩ := hS32'
  have hel := hE32.len
  refine oZ hK7 (cR fun _ hK8 => ?_); refine oM ?_; refine oS sN ?_; refine oS sF ?_; refine oS sL ?_; refine oS sC ?_; refine o_make (E := Ebo) (zx := false) (n := es2.length) rfl rfl rfl (by omega) (by omega) rfl fun b38 S38 hS38 => ?_; refine oA (oZ hK8 (cR fun _ hK9 => ?_)); refine oM (oM ?_); refine oS sN ?_; refine oS sF ?_; refine oS sL ?_; refine o_copy hS38 (hE2.rdk hiA) (by simp) rfl rfl (pkA) rfl fun S44 hS44 => ?_; refine oZ hK9 (cR fun _ hK10 => ?_); refine oM (oA (oZ hK10 (c_ret ?_))); refine ?_; refine x_sub (Sub.refl _) (H' := S44 ++ ((bS, .cells [.slice ma2 m.length mc2, .slice ta2 m.length tc2, .int .i16 g2.st, .slice g2.ha g2.l.length g2.hc, .slice g2.wa g2.wl.length g2.wc, .slice ea2 es2.length ec2, .int .i64 g2.steps].toArray 128 (0, 0)) :: (Sm2 ++ (g2.St ++ (g2.Sh ++ (g2.Sw ++ g2.Se)))))) (by simpa using hzB) ?_
  rw [hel] at hS44
  exact x_ret rfl (.tmp rfl (.nil)) (⟨some ⟨b38, 0, none⟩, w.length + 1, es2, last, _, _, by rw [hel]; rfl, rfl, hS32, hS44, hE32⟩)
theorem ends_fn (bS : Nat) (m : List In) (w : List UInt8) (es : List Bool) (S : Hp) (h : SrE bS m w.length es S) (hmr : ∀ x ∈ m, -128 ≤ x.op ∧ x.op < 128) (hmok : MOk m) (xa : Option Addr) (xc : Nat) (hwl : w.length ≤ 1000000) (f : Nat) (hf : f ≤ w.length) : HL.Fn Tryd.prog 38 [pt bS, .slice xa w.length xc, .int .i64 f] (fun W => Rd Eb W (.slice xa w.length xc) w ∧ Apart (keys S) (.slice xa w.length xc)) S (fun v S' => ∃ (a : Option Addr) (c : Nat) (es' : List Bool) (last : Int) (S2 S3 : Hp), v = .slice a (w.length + 1) c ∧ S' = S3 ++ S2 ∧ SrE bS m w.length es' S2 ∧ OwnS Ebo 1 4 (.slice a (w.length + 1) c) es' S3 ∧ EndsTo m w f (w.length + 1) es' last) := by
  obtain ⟨ma, mc, ta, tc, g, l0, ea, ec, Sm, rfl, hm, hT, hM, h0, hl, hW, hE, hes, hgl, hgw⟩ := h
  exact endsO_fn bS ma mc m ta tc g l0 ea ec es Sm w hm hT hM h0 hl hW hE hes hgl hgw hmr hmok xa xc hwl f hf
theorem gcn_dbl {re : List Nd} : 0 < gcn (dblN re) := by
  unfold gcn
  exact List.countP_pos_iff.2 ⟨grpN, List.mem_cons_of_mem _ List.mem_cons_self, by decide⟩
def FT (w : List UInt8) (x : Nd) (ks : F) (m : Nat) (b : Bool) (L : List Sp) : Prop :=
  (b = false ∧ L = [] ∧ ∀ k t, m ≤ k → ¬ Tw w x ks k t) ∨ ∃ (i e j : Nat) (c : Caps), b = true ∧ L = ⟨(i : Nat), (j : Nat)⟩ :: c ∧ i + j = 2 * e ∧ m ≤ i ∧ Tw w x ks i e ∧ c[0]? = some ⟨(i : Nat), (e : Nat)⟩ ∧ (∀ k t, m ≤ k → k ≤ i → Tw w x ks k t → (k = i → e ≤ t) → k = i ∧ t = e)
theorem BkP.ft {re : List Nd} {w : List UInt8} {x : Nd} {ks : F} {m : Nat} {v : Value} {S' : Hp} (hM : May re w x ks) (hsd : shapedB (dblN re) = true) (hmw : m ≤ w.length) (h : BkP (dblN re) w m v S') : ∃ b L a cc, v = .tuple #[.slice a L.length cc, .bool b, .int .i64 0] ∧ OwnS Esp 2 45 (.slice a L.length cc) L S' ∧ FT w x ks m b L := by
  have hc0 : 0 < (C0 (dblN re)).length := by rw [C0, List.length_replicate]; exact gcn_dbl
  have has := fun (k t : Nat) (ht : Tw w x ks k t) => dbl_has (c0 := C0 (dblN re)) hM hc0 ht
  rcases h with ⟨h, _⟩ | ⟨_, h, _⟩ | ⟨_, m', hm', _, y, js, hS, ⟨h1, hv, rfl⟩ | ⟨i, j, c, a, cc, hB, hv, hO⟩⟩
  · rw [hsd] at h; cases h
  · exact absurd ⟨by omega, by omega⟩ h
  · obtain rfl : m = m' := by omega
    obtain ⟨rfl, rfl⟩ := Shp.dbl hM hS
    exact ⟨false, [], none, 0, hv, .nil, .inl ⟨rfl, rfl, fun k t hk ht => has k t ht (h1 k _ hk (by have := ht.1; omega) (by have := ht.1; have := ht.2.1; omega))⟩⟩
  · obtain rfl : m = m' := by omega
    obtain ⟨rfl, rfl⟩ := Shp.dbl hM hS
    obtain ⟨e, ht, hij, hce⟩ := dbl_mem hM hc0 hB.hi (List.mem_of_mem_head? hB.hd)
    have hcl : c.length = gcn (dblN re) := by rw [hB.len, C0, List.length_replicate]
    refine ⟨true, ⟨(i : Nat), (j : Nat)⟩ :: c, a, cc, by rw [List.length_cons, hcl]; exact hv, by rw [List.length_cons, hcl]; exact hO, .inr ⟨i, e, j, c, rfl, rfl, hij, hB.lo, ht, hce, fun k t hmk hki htw hle => ?_⟩⟩
    have h1 := htw.1
    have h2 := htw.2.1
    by_cases hk : k = i
    · subst hk
      refine ⟨rfl, ?_⟩
      have h3 := hle rfl
      by_cases hj : j < 2 * t - k
      · exact absurd (hB.lng _ hj (by omega)) (has k t htw)
      · omega
    · exact absurd (hB.fst k _ hmk (by omega) (by omega) (by omega)) (has k t htw)
theorem tw_hit {re : List Nd} {w : List UInt8} {x : Nd} {ks : F} (hM : May re w x ks) {k t : Nat} {es : List Bool} {last : Int} (h : EndsTo (mach (.nd x ks .nil)) w k (w.length + 1) es last) (ht : t ≤ w.length) : es[t]? = some true ↔ k ≤ t ∧ der1 w x ks k t := by
  rw [h.get t ht]
  constructor
  · rintro ⟨h1, _, h3⟩; exact ⟨h1, (mach_hit hM.hs.wf).1 h3⟩
  · rintro ⟨h1, h3⟩; exact ⟨h1, by omega, (mach_hit hM.hs.wf).2 h3⟩
set_option maxHeartbeats 4000000 in
theorem backrefTwice_fn (ra : Option Addr) (rc : Nat) (re : List Nd) (hre : ∀ x ∈ re, -128 ≤ x.op ∧ x.op < 128) (ta : Option Addr) (tc : Nat) (w : List UInt8) (p : Int) : HL.Fn Tryd.prog 7 [.slice ra re.length rc, .slice ta w.length tc, .int .i64 p] (fun W => Rd En W (.slice ra re.length rc) re ∧ Rd Eb W (.slice ta w.length tc) w ∧ RdP W 0 0 (Esp noS)) [] (fun v _ => v = .bool true) := by
  refine fn_of Tryd.func7 rfl rfl rfl fun w0 hw => ?_
  have hsl := hw.1.sl
  have htl := hw.2.1.sl
  have htc := htl.cap
  refine cR fun _ hK1 => ?_; refine oA (oZ hK1 (c_seq fun _ hK2 => ?_)); refine cR fun _ hK3 => ?_; refine oM ?_; refine o_callP (beyond_fn ra rc re hre) rfl rfl rfl (fun _ st => (RdK.old0 hw.1).out _ st) (fun v19 hv19 => ?_)
  obtain ⟨c19, rfl⟩ := hv19
  cases c19
  ·refine oM ?_; refine oY (oM ?_); refine oY ?_; refine oS sC ?_; refine oY ?_; refine o_callP (longN_fn re.length) rfl rfl rfl (fun _ _ => trivial) (fun v23 hv23 => ?_); subst hv23
   cases hl23 : decide ((re.length : Int) > 2147483647)
   ·have hl23 := of_decide_eq_false hl23
    refine oS sP (oM ?_); refine oY (oM ?_); refine oY ?_; refine oS sC ?_; refine oY ?_; refine o_callP (longN_fn w.length) rfl rfl rfl (fun _ _ => trivial) (fun v28 hv28 => ?_); subst hv28
    cases hl28 : decide ((w.length : Int) > 2147483647)
    ·have hl28 := of_decide_eq_false hl28
     refine oS sP (oZ hK3 ?_); refine cFZ hK2 (cR fun _ hK4 => ?_); refine oM ?_; refine o_call (doubled_fn ra rc re hre (by omega)) rfl rfl rfl (by exact .nil) (fun _ st => (RdK.old0 hw.1).out _ st) (fun v31 S31 ⟨a31, c31, hv31, hS31⟩ => ?_); subst hv31
     have hdl3 := dblN_len re
     refine oA (oZ hK4 (c_seq fun _ hK5 => ?_)); refine cR fun _ hK6 => ?_; refine oM ?_
     by_cases hp0 : p < 0
     ·refine oS lsT (oM ?_); refine oN ?_; refine oN ?_; refine oN ?_; refine oN ?_; refine oS sT (oM ?_); refine oN ?_; refine oN ?_; refine oN ?_; refine oN ?_; refine oS sT (oM ?_); refine oN ?_; refine oN ?_; refine oN ?_; refine oS sT (oM ?_); refine oN ?_; refine oN ?_; refine oN ?_; refine oN ?_; refine oS sT (oZ hK6 ?_); refine cT (cR fun _ hK7 => ?_); refine o_callP (works_fn) rfl rfl rfl (fun _ st => (RdPK.old0 hw.2.2).out _ st) (fun v57 hv57 => ?_); subst hv57
      refine oA (oZ hK7 (c_ret ?_)); refine x_then_ret (?_); exact xR rfl rfl (rfl)
     ·refine oS lsF (oM ?_); refine oY (oM ?_); refine oY (oM ?_); refine oY ?_; refine oS sC ?_; refine oY ?_
      by_cases hpl : p > w.length
      ·refine oS gtT ?_; refine oS sP (oM ?_); refine oN ?_; refine oN ?_; refine oN ?_; refine oN ?_; refine oS sT (oM ?_); refine oN ?_; refine oN ?_; refine oN ?_; refine oS sT (oM ?_); refine oN ?_; refine oN ?_; refine oN ?_; refine oN ?_; refine oS sT (oZ hK6 ?_); refine cT (cR fun _ hK8 => ?_); refine o_callP (works_fn) rfl rfl rfl (fun _ st => (RdPK.old0 hw.2.2).out _ st) (fun v57 hv57 => ?_)
       subst hv57; refine oA (oZ hK8 (c_ret ?_)); refine x_then_ret (?_); exact xR rfl rfl (rfl)
      ·refine oS gtF ?_; refine oS sP (oM ?_); refine oY (oM ?_); refine oY ?_; refine o_call (copyNodes_fn ra rc re (by omega)) rfl rfl rfl (by exact .nil) (fun _ st => (RdK.old0 hw.1).out _ st) (fun v42 S42 ⟨a42, c42, hv42, hS42⟩ => ?_); subst hv42
       refine oY ?_; refine o_callP (shaped_fn a42 c42 re hre) rfl rfl rfl (fun _ st => (hS42.rdk hiA).out _ st) (fun v43 hv43 => ?_); subst hv43
       cases hsb : shapedB re
       ·refine oY ?_; refine oS (s_not rfl) ?_; refine oS sP (oM ?_); refine oN ?_; refine oN ?_; refine oN ?_; refine oS sT (oM ?_); refine oN ?_; refine oN ?_; refine oN ?_; refine oN ?_; refine oS sT (oZ hK6 ?_); refine cT (cR fun _ hK9 => ?_); refine o_callP (works_fn) rfl rfl rfl (fun _ st => (RdPK.old0 hw.2.2).out _ st) (fun v57 hv57 => ?_); subst hv57
        refine oA (oZ hK9 (c_ret ?_)); refine x_then_ret (?_); exact xR rfl rfl (rfl)
       ·refine oY ?_; refine oS (s_not rfl) ?_; refine oS sP (oM ?_); refine oY (oM ?_); refine oY ?_; refine o_call (copyNodes_fn ra rc re (by omega)) rfl rfl rfl (by exact .nil) (fun _ st => (RdK.old0 hw.1).out _ st) (fun v48 S48 ⟨a48, c48, hv48, hS48⟩ => ?_); subst hv48
        refine oY ?_; refine o_callP (refs_fn a48 c48 re hre) rfl rfl rfl (fun _ st => (hS48.rdk hiA).out _ st) (fun v49 hv49 => ?_); subst hv49
        cases hrf : refsB re
        ·refine oS sP (oM ?_); refine oY (oM ?_); refine oY ?_; refine o_call (copyNodes_fn a31 c31 (dblN re) (by omega)) rfl rfl rfl (by exact .nil) (fun _ st => (hS31.rdk hiA).out _ st) (fun v53 S53 ⟨a53, c53, hv53, hS53⟩ => ?_); subst hv53
         refine oY ?_; refine o_callP (shaped_fn a53 c53 (dblN re) (dblN_rng hre)) rfl rfl rfl (fun _ st => (hS53.rdk hiA).out _ st) (fun v54 hv54 => ?_); subst hv54
         cases hsd : shapedB (dblN re)
         ·refine oY ?_; refine oS (s_not rfl) ?_; refine oS sP (oZ hK6 ?_); refine cT (cR fun _ hK10 => ?_); refine o_callP (works_fn) rfl rfl rfl (fun _ st => (RdPK.old0 hw.2.2).out _ st) (fun v57 hv57 => ?_); subst hv57
          refine oA (oZ hK10 (c_ret ?_)); refine x_then_ret (?_); exact xR rfl rfl (rfl)
         ·have hdl : (dblN re).length ≤ 16384 := by obtain ⟨_, y, js, h⟩ := shapedB_iff.1 hsd; exact h.len
          obtain ⟨m, rfl⟩ : ∃ m : Nat, p = m := ⟨p.toNat, by omega⟩
          obtain ⟨_, x, ks, hSx⟩ := shapedB_iff.1 hsb
          have hM : May re w x ks := ⟨hsb, hrf, hSx⟩
          have hmok : MOk (mach (.nd x ks .nil)) := hSx.mok
          have hmr : ∀ u ∈ (mach (.nd x ks .nil)), -128 ≤ u.op ∧ u.op < 128 := fun u hu => by obtain ⟨i, hi⟩ := List.mem_iff_getElem?.1 hu; have := (hmok.2.2 i u hi).1.1; omega
          refine oY ?_; refine oS (s_not rfl) ?_; refine oS sP (oZ hK6 ?_); refine cFZ hK5 (c_seq fun _ hK11 => ?_); refine cR fun _ hK12 => ?_; refine oM (oM ?_); refine oS sC ?_; refine o_callP (costlyV_fn a31 c31 (dblN re) (dblN_rng hre) w.length) rfl rfl rfl (fun _ st => (hS31.rdk hiA).out _ st) (fun v61 ⟨cb, hv61, hF⟩ => ?_); subst hv61
          cases cb
          ·have hfit : shapedB (dblN re) = true → Fits (dblN re) w.length := fun h => hF rfl h (by omega)
           have hwl : w.length ≤ 1000000 := by have := (hfit hsd w.length rfl).1; omega
           refine oZ hK12 ?_; refine cFZ hK11 (cR fun _ hK13 => ?_); refine oM ?_; refine o_call (copyNodes_fn ra rc re (by omega)) rfl rfl rfl (by exact .nil) (fun _ st => (RdK.old0 hw.1).out _ st) (fun v65 S65 ⟨a65, c65, hv65, hS65⟩ => ?_); subst hv65
           refine o_call (compile_fn a65 c65 re hre) rfl rfl rfl (by exact .nil) (fun _ st => (hS65.rdk hiA).out _ st) (fun v66 S66 hC => ?_)
           obtain ⟨a66, rfl, hR66⟩ := hC.good hSx ⟨hsb, hrf⟩
           refine oM ?_; refine oS sE ?_; refine oS sE (oA (oA (oZ hK13 (cR fun _ hK14 => ?_)))); refine oM ?_; refine o_call (lnew_fn a66 (mach (.nd x ks .nil)).length (mach (.nd x ks .nil))) rfl rfl rfl (by exact .nil) (fun _ st => (hR66.rdk hiA).out _ st) (fun v71 S71 hN => ?_)
           obtain ⟨bS, rfl, hSr⟩ : ∃ bS, v71 = .tuple #[pt bS, .int .i64 0] ∧ ∀ n, SrE bS (mach (.nd x ks .nil)) n [] S71 := by rcases hN with ⟨h, _⟩ | ⟨_, h⟩; (· rw [mokB_iff.2 hmok] at h; cases h); (· exact h)
           refine oM ?_; refine oS sE ?_; refine oS sE (oA (oA (oZ hK14 (cR fun _ hK15 => ?_)))); refine oM (oM (oM ?_)); refine o_call (found_fn a31 c31 (dblN re) (dblN_rng hre) ta tc w (by omega) (by omega) m hfit) rfl rfl rfl (by exact .nil) (fun _ st => ⟨(hS31.rdk hiA).out _ st, (RdK.old0 hw.2.1).out _ st, (RdPK.old0 hw.2.2).out _ st⟩) (fun v78 S78 hv78 => ?_)
           obtain ⟨b, L, a78, c78, rfl, hO78, hFT⟩ := hv78.ft hM hsd (by omega)
           refine oM ?_; refine oS sE ?_; refine oS sE ?_; refine oS sE (oA (oA (oA (oZ hK15 (c_seq fun _ hK16 => ?_))))); refine cR fun _ hK17 => ?_; refine oM ?_; refine oS (step_cast (v' := .bool false) (s_neq rfl rfl) rfl) ?_; refine oM ?_; refine oY (oM ?_); refine oY ?_; refine oS (step_cast (v' := .bool false) (s_neq rfl rfl) rfl) ?_; refine oS sP (oM ?_); refine oY (oM ?_); refine oY ?_; refine oS (step_cast (v' := .bool false) (s_neq rfl rfl) rfl) ?_; refine oS sP (oZ hK17 ?_); refine cFZ hK16 (c_seq fun _ hK18 => ?_); refine cR fun _ hK19 => ?_; refine oM (oA (oZ hK19 (c_block ?_)))
           -- not carried: 6
           refine c_loop3 (fun (k : Nat) (es : List Bool) (S' : Hp) => m ≤ k ∧ k ≤ w.length + 1 ∧ SrE bS (mach (.nd x ks .nil)) w.length es S' ∧ (∀ k' t, m ≤ k' → k' < k → ¬ Tw w x ks k' t)) (fun (k : Nat) (es : List Bool) (S' : Hp) => [(15, .int .i64 k)]) [(1, _), (10, _), (12, _), (13, _)] (fun (k : Nat) (es : List Bool) (S' : Hp) => S' ++ S78) (fun (k : Nat) (es : List Bool) (S' : Hp) => w.length + 1 - k) m [] S71 ⟨Nat.le_refl _, by omega, hSr _, fun k t h1 h2 => by omega⟩ sbA sbA hzB ?_
           rintro k es S' ⟨hmk, hkw, hSr', hkn⟩
           refine c_seq fun _ hK20 => ?_; refine cR fun _ hK21 => ?_; refine oM (oM ?_); refine oS sC ?_
           by_cases hkl : (k : Int) ≤ w.length
           ·refine oS leT (oZ hK21 ?_); refine cTZ hK20 (c_seq fun _ hK22 => ?_); refine c_block (cR fun _ hK23 => ?_); refine oM (oM ?_); refine o_call (copyBytes_fn ta tc w (by omega)) rfl rfl rfl (by exact .nil) (fun _ st => (RdK.old0 hw.2.1).out _ st) (fun v101 S101 ⟨a101, c101, hv101, hS101⟩ => ?_); subst hv101
            refine oM ?_; refine o_call (ends_fn bS (mach (.nd x ks .nil)) w es S' hSr' hmr hmok a101 c101 hwl k (by omega)) rfl rfl rfl (pkA) (fun w st => ⟨(hS101.rdk hiA).out w st, st.apart pkA hS101 hiA⟩) (fun v103 S103 ⟨a103, c103, es2, last, S2, S3, hv103, hS2, hSr2, hO103, hE103⟩ => ?_); subst hv103
            subst hS2
            have hel := hE103.len
            have hes := hO103.sl
            rw [hel] at hes
            refine oA (oZ hK23 (cR fun _ hK24 => ?_)); refine oM ?_; refine oS sC (oM ?_); refine oS sD ?_; refine oS (step_cast (v' := .int .i64 ((((w.length + k) / 2 + 1 : Nat) : Int) - 1)) (s_quo rfl rfl (by omega)) (congrArg _ (by rw [← Int.natCast_add, show (2 : Int) = ((2 : Nat) : Int) from rfl, tdiv_nat, wrap_i64n (by omega)]; omega))) ?_; refine oA (oZ hK24 (c_block ?_)); refine c_loopB (fun (T : Nat) => k ≤ T ∧ 2 * T ≤ w.length + k + 2 ∧ (∀ t, T ≤ t → ¬ Tw w x ks k t)) (fun (T : Nat) => [(17, .int .i64 ((T : Int) - 1))]) [(1, _), (10, _), (12, _), (13, _), (15, _), (16, _), (93, _), (94, _), (95, _), (96, _), (99, _), (100, _), (101, _), (102, _), (103, _), (104, _), (105, _), (106, _), (107, _), (108, _)] (fun (T : Nat) => S3 ++ (S2 ++ S78)) (fun (T : Nat) => T) ((w.length + k) / 2 + 1) ⟨by omega, by omega, fun t h ht => by have := ht.2.1; omega⟩ sbA sbA hzB ?_
            rintro T ⟨hT1, hT2, hTn⟩
            refine c_seq fun _ hK25 => ?_; refine cR fun _ hK26 => ?_; refine oM (oM ?_)
            by_cases hkT : ((T : Int) - 1) ≥ k
            ·obtain ⟨t, rfl⟩ : ∃ t, T = t + 1 := ⟨T - 1, by omega⟩
             obtain ⟨hw1l, hw2l⟩ : ((w.drop k).take (t - k)).length = t - k ∧ ((w.drop t).take (2 * t - k - t)).length = 2 * t - k - t := by constructor <;> (rw [List.length_take, List.length_drop]; omega)
             have hti := tw_hit hM hE103 (t := t) (by omega)
             refine oS geT (oZ hK26 ?_); refine cTZ hK25 (c_seq fun _ hK27 => ?_); refine c_block (c_seq fun _ hK28 => ?_); refine c_drawE (S3) (fun i => false) ?_; refine eP 0 rfl (step_cast (v' := .int .i64 (t : Nat)) (s_move rfl) (congrArg _ (by omega))) ?_; refine eP 1 rfl sM ?_; refine eP 2 rfl sC ?_; refine eP 3 rfl lsT ?_; refine eP 4 rfl sM ?_; refine eG 5 rfl sM ?_; refine eG 6 rfl (step_cast (v' := .int .i64 (t : Nat)) (s_move rfl) (congrArg _ (by omega))) ?_; refine eG 7 rfl (s_idx rfl rfl hes (by omega)) ?_
             by_cases hbt : es2[t]? = some true
             ·have hder := (hti.1 hbt).2
              refine eG 8 rfl (step_cast (v' := .bool true) (s_ld rfl ((hO103.rdk hiA).ld t 0 hbt rfl (by decide) (by omega))) rfl) ?_; refine eP 9 rfl sT ?_; refine eP 10 rfl sM ?_; refine eG 11 rfl sM ?_; refine eG 12 rfl sM ?_; refine eG 13 rfl (step_cast (v' := .int .i64 (t : Nat)) (s_move rfl) (congrArg _ (by omega))) ?_; refine eG 14 rfl (step_cast (v' := .slice (midA ta tc k 1) ((w.drop k).take (t - k)).length (tc - k)) (s_slice_mid rfl rfl rfl (by omega)) (by rw [hw1l]; simp only [Int.toNat_natCast])) ?_; refine eG 15 rfl sM ?_; refine eG 16 rfl (step_cast (v' := .int .i64 (t : Nat)) (s_move rfl) (congrArg _ (by omega))) ?_; refine eG 17 rfl (step_cast (v' := .int .i64 (t : Nat)) (s_move rfl) (congrArg _ (by omega))) ?_; refine eG 18 rfl (step_cast (v' := .int .i64 ((2 * t : Nat) : Int)) (s_mul rfl rfl (by omega)) (congrArg _ (by omega))) ?_; refine eG 19 rfl sM ?_; refine eG 20 rfl (step_cast (v' := .int .i64 ((2 * t - k : Nat) : Int)) (s_sub rfl rfl (by omega)) (congrArg _ (by omega))) ?_; refine eG 21 rfl (step_cast (v' := .slice (midA ta tc t 1) ((w.drop t).take (2 * t - k - t)).length (tc - t)) (s_slice_mid rfl rfl rfl (by omega)) (by rw [hw2l]; simp only [Int.toNat_natCast])) ?_; refine eO 22 rfl ?_; refine oY ?_; refine o_callP (eqBytes_fn (midA ta tc k 1) (midA ta tc t 1) (tc - k) (tc - t) ((w.drop k).take (t - k)) ((w.drop t).take (2 * t - k - t))) rfl rfl rfl (fun w st => ⟨((RdK.old0 hw.2.1).out w st).mid k t (by omega) (by omega), ((RdK.old0 hw.2.1).out w st).mid t (2 * t - k) (by omega) (by omega)⟩) (fun v136 hv136 => ?_); subst hv136
              cases hq : decide (((w.drop k).take (t - k)) = ((w.drop t).take (2 * t - k - t)))
              ·have hnt : ¬ Tw w x ks k t := fun h => of_decide_eq_false hq (by have := h.2.2.2; rw [show 2 * t - k - t = t - k by omega]; exact this)
               refine oX ?_; refine eP 23 rfl sT (eZ hK28 ?_); refine cF (c_skip (x_block (xZ hK27 (c_region (oM ?_))))); refine oS (step_cast (v' := .int .i64 ((t : Int) - 1)) (s_sub rfl rfl (by omega)) (congrArg _ (by omega))) ?_; refine oA (o_nil ?_); exact xI t ⟨by omega, by omega, fun u hu => if e : u = t then e ▸ hnt else hTn u (by omega)⟩
              ·have hTw : Tw w x ks k t := ⟨by omega, by omega, hder, by have := of_decide_eq_true hq; rw [show 2 * t - k - t = t - k by omega] at this; exact this⟩
               obtain ⟨i, e, j, c, rfl, rfl, hij, hmi, hTi, hce, huq⟩ := hFT.resolve_left fun h => h.2.2 k t hmk hTw
               have hki : k ≤ i := Nat.le_of_not_lt fun h => hkn i e hmi h hTi
               obtain ⟨rfl, rfl⟩ := huq k t hmk hki hTw fun h => Nat.le_of_not_lt fun h2 => hTn e (by omega) (h ▸ hTi)
               obtain rfl : j = 2 * t - k := by omega
               have hcl : 0 < c.length := (List.getElem?_eq_some_iff.1 hce).1
               refine oX ?_; refine eP 23 rfl sT (eZ hK28 ?_); refine cT (cR fun _ hK29 => ?_); refine oM ?_; refine oS (step_cast (v' := .bool true) (s_move rfl) rfl) ?_; refine oY (oM ?_); refine oY ?_; refine oS sC ?_; refine oY ?_; refine oS (step_cast (v' := .bool true) (s_gtr rfl rfl) (by rw [decide_eq_true (by rw [List.length_cons]; omega)])) ?_; refine oS sT (oM ?_); refine oY (oM ?_); refine oY ?_; refine oS (s_idx rfl rfl hO78.sl (by rw [List.length_cons]; omega)) ?_; refine oY ?_; refine oS (s_ldB rfl ((hO78.rdk hiA).lds 0 rfl rfl) (by rfl)) ?_; refine oY (oM ?_); refine oY ?_; refine oS (step_cast (v' := .int .i64 (t : Nat)) (s_move rfl) (congrArg _ (by omega))) ?_; refine oY ?_; refine oS (step_cast (v' := .int .i64 ((2 * t : Nat) : Int)) (s_mul rfl rfl (by omega)) (congrArg _ (by omega))) ?_; refine oY (oM ?_); refine oY ?_; refine oS (step_cast (v' := .int .i64 ((2 * t - k : Nat) : Int)) (s_sub rfl rfl (by omega)) (congrArg _ (by omega))) ?_; refine oY ?_; refine oS (step_cast (v' := .agg (Esp ⟨(k : Nat), (2 * t - k : Nat)⟩).toArray) (s_build (cs := [_, _]) (vs := [_, _]) rfl rfl (.cons rfl rfl rfl rfl rfl (.cons rfl rfl rfl rfl rfl (.nil)))) rfl) ?_; refine oY ?_; refine oS (step_cast (v' := .bool true) (s_eql_sp rfl rfl) (by rw [decide_eq_true rfl])) ?_
               refine oS sT (oM ?_); refine oY (oM ?_); refine oY ?_; refine oS (s_idx rfl rfl hO78.sl (by rw [List.length_cons]; omega)) ?_; refine oY ?_; refine oS (s_ldB rfl ((hO78.rdk hiA).lds 1 hce rfl) (by rfl)) ?_; refine oY (oM ?_); refine oY ?_; refine oS (step_cast (v' := .int .i64 (t : Nat)) (s_move rfl) (congrArg _ (by omega))) ?_; refine oY ?_; refine oS (step_cast (v' := .agg (Esp ⟨(k : Nat), (t : Nat)⟩).toArray) (s_build (cs := [_, _]) (vs := [_, _]) rfl rfl (.cons rfl rfl rfl rfl rfl (.cons rfl rfl rfl rfl rfl (.nil)))) rfl) ?_; refine oY ?_; refine oS (step_cast (v' := .bool true) (s_eql_sp rfl rfl) (by rw [decide_eq_true rfl])) ?_; refine oS sT (oM ?_); refine oY ?_; refine o_callP (works_fn) rfl rfl rfl (fun _ st => (RdPK.old0 hw.2.2).out _ st) (fun v166 hv166 => ?_); subst hv166
               refine oS sT (oA (oZ hK29 (c_ret ?_))); refine x_block_ret (x_then_ret (x_then_ret (x_block_ret (x_block_ret (x_then_ret (x_then_ret (x_block_ret (x_then_ret (?_)))))))))
               exact xR rfl rfl (rfl)
             ·have hbf : es2[t]? = some false := by rcases hh : es2[t]? with _ | b2; (· have := List.getElem?_eq_none_iff.1 hh; omega); (· cases b2; (· rfl); (· exact absurd hh hbt))
              have hnt : ¬ Tw w x ks k t := fun h => hbt (hti.2 ⟨h.1, h.2.2.1⟩)
              refine eG 8 rfl (step_cast (v' := .bool false) (s_ld rfl ((hO103.rdk hiA).ld t 0 hbf rfl (by decide) (by omega))) rfl) ?_; refine eP 9 rfl sT ?_; refine eP 10 rfl sM ?_; refine eS 11 rfl (eS 12 rfl (eS 13 rfl (eS 14 rfl (eS 15 rfl (eS 16 rfl (eS 17 rfl (eS 18 rfl (eS 19 rfl (eS 20 rfl (eS 21 rfl (eO 22 rfl ?_))))))))))); refine oN (oX ?_); refine eP 23 rfl sP (eZ hK28 ?_); refine cF (c_skip (x_block (xZ hK27 (c_region (oM ?_))))); refine oS (step_cast (v' := .int .i64 ((t : Int) - 1)) (s_sub rfl rfl (by omega)) (congrArg _ (by omega))) ?_; refine oA (o_nil ?_); exact xI t ⟨by omega, by omega, fun u hu => if e : u = t then e ▸ hnt else hTn u (by omega)⟩
            ·obtain rfl : k = T := by omega
             refine oS geF (oZ hK26 ?_); refine cF ?_; refine c_exit ?_; refine x_then_exit (x_then_exit (x_block_exit (x_block (xZ hK22 (c_region (oM ?_)))))); refine oS sD (oA (o_nil ?_)); exact xI (k + 1, es2, S2) ⟨by dsimp only; omega, by dsimp only; omega, hSr2, fun k' t h1 h2 h => by by_cases e : k' = k; (· subst e; exact hTn t (by have := h.1; omega) h); (· exact hkn k' t h1 (by dsimp only at h2; omega) h)⟩
           ·obtain rfl : k = w.length + 1 := by omega
            obtain ⟨rfl, rfl⟩ : b = false ∧ L = [] := by rcases hFT with ⟨h1, h2, _⟩ | ⟨i, e, j, c, _, _, _, hmi, hTi, _, _⟩; (· exact ⟨h1, h2⟩); (· have a1 := hTi.1; have a2 := hTi.2.1; exact absurd hTi (hkn i e hmi (by omega)))
            refine oS leF (oZ hK21 ?_); refine cF ?_; refine c_exit ?_; refine x_then_exit (x_then_exit (x_block_exit (xZ hK18 (cR fun _ hK30 => ?_)))); refine oM ?_; refine oS (step_cast (v' := .bool true) (s_not rfl) rfl) ?_; refine oM ?_; refine oY (oM ?_); refine oY ?_; refine oS sC ?_; refine oY ?_; refine oS (step_cast (v' := .bool true) (s_eql rfl rfl) rfl) ?_; refine oS sT (oM ?_); refine oY ?_; refine o_callP (works_fn) rfl rfl rfl (fun _ st => (RdPK.old0 hw.2.2).out _ st) (fun v176 hv176 => ?_)
            subst hv176; refine oS sT (oA (oZ hK30 (c_ret ?_))); refine ?_; exact xR rfl rfl (rfl)
          ·refine oZ hK12 ?_; refine cT (cR fun _ hK31 => ?_); refine o_callP (works_fn) rfl rfl rfl (fun _ st => (RdPK.old0 hw.2.2).out _ st) (fun v62 hv62 => ?_); subst hv62
           refine oA (oZ hK31 (c_ret ?_)); refine x_then_ret (?_); exact xR rfl rfl (rfl)
        ·refine oS sP (oM ?_); refine oN ?_; refine oN ?_; refine oN ?_; refine oN ?_; refine oS sT (oZ hK6 ?_); refine cT (cR fun _ hK32 => ?_); refine o_callP (works_fn) rfl rfl rfl (fun _ st => (RdPK.old0 hw.2.2).out _ st) (fun v57 hv57 => ?_); subst hv57
         refine oA (oZ hK32 (c_ret ?_)); refine x_then_ret (?_); exact xR rfl rfl (rfl)
    ·refine oS sP (oZ hK3 ?_); refine cT (cR fun _ hK33 => ?_); refine oA (oZ hK33 (c_ret ?_)); refine x_then_ret (?_); exact xR rfl rfl (rfl)
   ·refine oS sP (oM ?_); refine oN ?_; refine oN ?_; refine oN ?_; refine oS sT (oZ hK3 ?_); refine cT (cR fun _ hK34 => ?_); refine oA (oZ hK34 (c_ret ?_)); refine x_then_ret (?_); exact xR rfl rfl (rfl)
  ·refine oM ?_; refine oN ?_; refine oN ?_; refine oN ?_; refine oS sT (oM ?_); refine oN ?_; refine oN ?_; refine oN ?_; refine oS sT (oZ hK3 ?_); refine cT (cR fun _ hK35 => ?_); refine oA (oZ hK35 (c_ret ?_)); refine x_then_ret (?_); exact xR rfl rfl (rfl)
end Go.Proofs.YtloepfcndglmmaaDoor
namespace Go.Proofs.YtloepfcndglmmaaDoor
open Go Go.HL Go.Proofs Go.HL.Kl Go.HL.Kl.Mc
theorem own : ownKnob Tryd.prog.godebug = none := by kernel_rfl
theorem laidOut : laidOutB Tryd.prog = true := by kernel_rfl
theorem open_nd : Opens Tryd.prog 80 En (fun _ t => -128 ≤ t.op ∧ t.op < 128) :=
  open_struct6 Tryd.underlying80 rfl (by kernel_rfl) (by kernel_rfl) (by kernel_rfl) (by kernel_rfl) (by kernel_rfl) (by kernel_rfl) (open_i8 Tryd.underlying75) (open_cl Tryd.underlying78 Tryd.underlying76 (by kernel_rfl) (by kernel_rfl)) (open_i64 Tryd.underlying3) (open_i64 Tryd.underlying3) (open_i64 Tryd.underlying3) (open_i64 Tryd.underlying3) fun w a b c d e f ha _ _ _ _ _ => ⟨⟨a, b, c, d, e, f⟩, rfl, ha⟩
theorem door_met (os : Os) (args : Array Value) : laidMetH Tryd.prog [("galley/backref.none", Rows.laid_galley_backref_none)] ((World.doorLaid Tryd.prog 400 os).forCall (fun _ _ => 0) ⟨#[], args, []⟩).memory :=
  laidMetH_of_parts3 (fuel := 8) (laidMet_of_run' 8 (by kernel_rfl) (by kernel_rfl)) (by kernel_rfl) (by kernel_rfl)
theorem two_of {α : Type} {l : List α} (h : l.length = 2) : ∃ a b, l = [a, b] := by
  match l, h with
  | [a, b], _ => exact ⟨a, b, rfl⟩
theorem tb_laid {W : World} (h : laidMetH Tryd.prog [("galley/backref.none", Rows.laid_galley_backref_none)] W) : RdP W 0 0 (Esp noS) := by
  rw [MakeChecks.laidMetH_plain _ _ _ (by kernel_rfl)] at h
  obtain ⟨ps, hv, _⟩ := h
  obtain ⟨g', t', cs, fuel, p, q, hg', ht', hvar, hd, hr, _⟩ := hv
  have hg : Tryd.prog.globalNamed "galley/backref.none" = some 0 := by kernel_rfl
  obtain rfl := Option.some.inj (hg.symm.trans hg')
  have hty : (Tryd.prog.globals[0]?).map (·.type) = some 45 := by kernel_rfl
  obtain rfl := Option.some.inj (hty.symm.trans ht')
  obtain ⟨y0, y1, n, hx, hl, h0, h1⟩ := Go.ChangeShapes.trod_struct2 Tryd.underlying45 hd
  obtain ⟨z0, hc0, hz0, _⟩ := DataW.trod_int Tryd.underlying3 h0
  obtain ⟨z1, hc1, hz1, _⟩ := DataW.trod_int Tryd.underlying3 h1
  have hq : (Rows.laid_galley_backref_none : DataW Unit) = .agg [y0.1, y1.1] := congrArg Prod.fst hx
  have e2 : Tryd.prog.cellsOf 45 = 2 := by kernel_rfl
  have e1 : Tryd.prog.cellsOf 3 = 1 := by kernel_rfl
  rw [e2] at hl
  rw [e1] at hc0 hc1
  rw [hz0, hz1] at hq
  simp only [Rows.laid_galley_backref_none, DataW.agg.injEq, List.cons.injEq, DataW.lit.injEq, Lit.int.injEq, true_and, and_true] at hq
  obtain ⟨rfl, rfl⟩ := hq
  obtain ⟨cs⟩ := cs
  dsimp only at hl hc0 hc1
  obtain ⟨a, b, rfl⟩ := two_of hl
  simp only [List.drop_zero, List.take_succ_cons, List.take_zero, List.cons.injEq, and_true, List.drop_succ_cons] at hc0 hc1
  subst hc0; subst hc1
  refine ⟨fun j u hu => ?_⟩
  have := World.var?_cell hg hvar j
  rw [Nat.zero_add, this]
  have hu2 : [Value.int IntKind.i64 (-1), Value.int IntKind.i64 (-1)][j]? = some u := hu
  simpa using hu2
end Go.Proofs.YtloepfcndglmmaaDoor
