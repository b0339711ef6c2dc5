/- Part of the proofs over this seat: see the text that holds the theorem. Conditions: each theorem bears its own. -/
import Derived.Test.YtopmnmigpbdddaaGreatDoorHTZ
import Derived.Test.YtopmnmigpbdddaaGreatDoorZL2Z
import Derived.Test.YtopmnmigpbdddaaGreatDoorZM12Z
import Derived.Test.YtopmnmigpbdddaaGreatDoorHMZ
import Derived.Test.YtopmnmigpbdddaaGreatDoorMK5Z
import Derived.Test.YtopmnmigpbdddaaGreatDoorMT7Z
import Derived.Test.YtopmnmigpbdddaaGreatDoorHlB
import Derived.Test.YtopmnmigpbdddaaGreatDoorZW9Z
import Derived.Test.YtopmnmigpbdddaaGreatDoorZE6Z
import Derived.Test.YtopmnmigpbdddaaGreatDoorZN5Z
import Derived.Test.YtopmnmigpbdddaaGreatDoorZM9Z
import Derived.Recover
namespace Go.Proofs.YtopmnmigpbdddaaGreatDoor
open Go Go.HL Go.Proofs Go.HL.Kl Go.HL.Kl.Mc Go.HL.Kl.Mc.AskE
theorem fromP_fn (bS : Nat) (m : List In) (w : List UInt8) (es : List Bool) (S : Hp) (h : SrE bS m w.length es S) (hmr : ∀ x ∈ m, -128 ≤ x.op ∧ x.op < 128) (hmok : MOk m) (xa : Option Addr) (xc : Nat) (hwl : w.length ≤ 1000000) (f : Nat) (hf : f ≤ w.length) : HL.Fn Tryz.prog 75 [pt bS, .slice xa w.length xc, .int .i64 f] (fun W => Rd Eb W (.slice xa w.length xc) w ∧ Apart (keys S) (.slice xa w.length xc)) S (fun v S' => ∃ es' last, v = .int .i64 last ∧ SrE bS m w.length es' S' ∧ EndsTo m w f (w.length + 1) es' last) := by
  obtain ⟨ma, mc, ta, tc, g, l1, ea, ec, Sm, rfl, hm, hT, hM, h0, hl, hW, hE, hes, hgl, hgw⟩ := h
  exact from_fn bS ma mc m ta tc g l1 ea ec es Sm hm hmr hmok hT hM h0 hl hW hE xa xc w hwl hes hgl hgw f hf

set_option maxHeartbeats 2000000 in
theorem lnew_fn (ra : Option Addr) (rc : Nat) (m : List In) : HL.Fn Tryz.prog 23 [.slice ra m.length rc] (fun W => Rd Ein W (.slice ra m.length rc) m) [] (fun v S' => (mokB m = false ∧ v = .tuple #[.pointer none, .int .i64 49]) ∨ (mokB m = true ∧ ∃ bS, v = .tuple #[pt bS, .int .i64 0] ∧ ∀ n, SrE bS m n [] S')) := by
  refine fn_of Tryz.func23 rfl rfl rfl fun w0 hw => ?_
  have hsl := hw.sl
  have hbl := hsl.le
  refine c_seq fun _ hK1 => ?_; refine c_region ?_; refine o_step rfl (s_assign rfl) ?_; refine o_step rfl (s_assign rfl) ?_; refine o_nil ?_; refine x_then (hK1 _ _ ?_); refine c_seq fun _ hK2 => ?_; refine c_seq fun _ hK3 => ?_; refine c_region ?_; refine o_step rfl (s_move rfl) ?_; refine o_callP (mShaped_fn ra rc m) rfl rfl rfl (fun _ st => (RdK.old0 hw).out _ st) (fun v6 hv6 => ?_); subst hv6
  cases hmk : mokB m
  ·
   refine o_step rfl (s_not rfl) ?_; refine o_nil ?_; refine x_then (hK3 _ _ ?_); refine c_true rfl ?_; refine c_seq fun _ hK4 => ?_; refine c_region ?_; refine o_step rfl (s_assign rfl) ?_; refine o_step rfl (s_assign rfl) ?_; refine o_nil ?_; refine x_then (hK4 _ _ ?_); refine c_ret ?_; refine x_then_ret (?_); exact x_ret rfl (.tmp rfl (.tmp rfl (.nil))) (.inl ⟨hmk, rfl⟩)
  ·
   have hmok := mokB_iff.1 hmk
   have hml : m.length ≤ 65540 := hmok.2.1
   refine o_step rfl (s_not rfl) ?_; refine o_nil ?_; refine x_then (hK3 _ _ ?_); refine c_false rfl ?_; refine c_skip ?_; refine x_then (hK2 _ _ ?_); refine c_seq fun _ hK5 => ?_; refine c_drawE ([]) (fun i => false) ?_; refine e_tk 0 rfl (by exact HSub.nil) (s_move rfl) ?_; refine e_tk 1 rfl (by exact HSub.nil) (s_len rfl) ?_; refine e_tk 3 rfl (by exact HSub.nil) (s_move rfl) ?_; refine e_tk 4 rfl (by exact HSub.nil) (s_len rfl) ?_; refine e_join (ι := {g : (Nat × Hp) × (Nat × Hp) // OwnS Ein 7 145 (.slice (some ⟨g.1.1, 0, none⟩) m.length m.length) (List.replicate m.length (⟨0, 0, 0, 0⟩ : In)) g.1.2 ∧ OwnS Es16 1 152 (.slice (some ⟨g.2.1, 0, none⟩) m.length m.length) (List.replicate m.length (0 : Int)) g.2.2}) (fun g => [(10, .slice (some ⟨g.1.1.1, 0, none⟩) m.length m.length), (13, .slice (some ⟨g.1.2.1, 0, none⟩) m.length m.length)]) [(0, _), (2, _), (3, _)] (fun g => g.1.1.2 ++ g.1.2.2) 3 #[true, true, true, true, true, true, false, false, false] sbA (fun hJ => ?_) ?_
   ·
    refine e_any2 2 5 rfl rfl (by kernel_rfl) ?_ ?_
    ·
     refine o_make (E := Ein) (zx := (⟨0, 0, 0, 0⟩ : In)) (n := m.length) rfl rfl rfl (by omega) (by omega) rfl fun b10 S10 hS10 => ?_; refine o_nil ?_; refine x_oneS (by exact HSub.nil) ?_; refine e_one 5 rfl (by kernel_rfl) ?_; refine o_make (E := Es16) (zx := (0 : Int)) (n := m.length) rfl rfl rfl (by omega) (by omega) rfl fun b13 S13 hS13 => ?_; refine o_nil ?_; refine x_oneS (by exact HSub.nil) ?_
     exact e_lst (by kernel_rfl) (hJ ⟨((b10, S10), (b13, S13)), hS10, hS13⟩ _ _ sbA sbA hzB)
    ·
     refine o_make (E := Es16) (zx := (0 : Int)) (n := m.length) rfl rfl rfl (by omega) (by omega) rfl fun b13 S13 hS13 => ?_; refine o_nil ?_; refine x_oneS (by exact HSub.nil) ?_; refine e_one 2 rfl (by kernel_rfl) ?_; refine o_make (E := Ein) (zx := (⟨0, 0, 0, 0⟩ : In)) (n := m.length) rfl rfl rfl (by omega) (by omega) rfl fun b10 S10 hS10 => ?_; refine o_nil ?_; refine x_oneS (by exact HSub.nil) ?_
     exact e_lst (by kernel_rfl) (hJ ⟨((b10, S10), (b13, S13)), hS10, hS13⟩ _ _ sbA sbA hzB)
   ·
    rintro ⟨⟨⟨bm, Sm⟩, ⟨bt, St⟩⟩, hSm, hSt⟩
    refine e_one 6 rfl (by kernel_rfl) ?_; refine o_step rfl (s_build (cs := [_, _, _, _, _, _, _]) (vs := [_, _]) rfl rfl (.cons rfl rfl rfl rfl rfl (.cons rfl rfl rfl rfl rfl (.nil)))) ?_; refine o_nil ?_; refine x_oneS (by exact HSub.nil) ?_; refine e_one 7 rfl (by kernel_rfl) ?_; refine o_box rfl rfl rfl fun b15 => ?_; refine o_nil ?_; refine x_oneS (by exact HSub.nil) ?_; refine e_one 8 rfl (by kernel_rfl) ?_; refine o_step rfl (s_assign rfl) ?_; refine o_nil ?_; refine x_oneS (by exact HSub.nil) ?_; refine e_done (by kernel_rfl) ?_; refine x_then (hK5 _ _ ?_); refine c_seq fun _ hK6 => ?_; refine c_region ?_; refine o_step rfl (s_move rfl) ?_; refine o_step rfl (s_nil rfl) ?_; refine o_step rfl (s_field rfl rfl (by decide)) ?_; refine o_step rfl (s_ld rfl (.own meA rfl)) ?_; refine o_step rfl (s_move rfl) ?_; refine o_copy hSm (RdK.old0 hw) (by simp) rfl rfl (pkA) rfl fun S21 hS21 => ?_
    refine o_nil ?_; refine x_then (hK6 _ _ ?_); refine c_seq fun _ hK7 => ?_; refine c_region ?_; refine o_step rfl (s_move rfl) ?_; refine o_step rfl (s_assign rfl) ?_; refine o_step rfl (s_assign rfl) ?_; refine o_nil ?_; refine x_then (hK7 _ _ ?_); refine c_ret ?_; refine ?_; refine x_sub (Sub.refl _) (H' := (b15, .cells [.slice (some ⟨bm, 0, none⟩) m.length m.length, .slice (some ⟨bt, 0, none⟩) m.length m.length, .int .i16 0, .slice none 0 0, .slice none 0 0, .slice none 0 0, .int .i64 0].toArray 154 (0, 0)) :: (S21 ++ (St ++ ([] ++ ([] ++ []))))) (by simpa using hzB) ?_; exact x_ret rfl (.tmp rfl (.tmp rfl (.nil))) (.inr ⟨hmk, b15, rfl, fun n => ⟨some ⟨bm, 0, none⟩, m.length, some ⟨bt, 0, none⟩, m.length, ⟨0, 0, 0, List.replicate m.length 0, none, 0, [], none, 0, [], [], St, [], [], []⟩, List.range m.length, none, 0, S21, rfl, hS21, hSt, .start, ⟨Int.le_refl _, by show (0 : Int) ≤ 32767; decide⟩, .nil, .nil, .nil, .inr ⟨rfl, rfl⟩, Nat.zero_le _, Nat.zero_le _⟩⟩)

set_option maxHeartbeats 2000000 in
theorem lfindO_fn (bS : Nat) (ma : Option Addr) (mc : Nat) (m : List In) (ta : Option Addr) (tc : Nat) (g : FrG) (l0 : List Nat) (ea : Option Addr) (ec : Nat) (es : List Bool) (Sm : Hp) (hm : OwnS Ein 7 145 (.slice ma m.length mc) m Sm) (hmr : ∀ x ∈ m, -128 ≤ x.op ∧ x.op < 128) (hmok : MOk m) (hT : OwnS Es16 1 152 (.slice ta m.length tc) g.mt g.St) (hM : MetOk g.mt g.st l0 m.length) (h0 : 0 ≤ g.st ∧ g.st ≤ 32767) (hl : OwnS Eix 1 3 (.slice g.ha g.l.length g.hc) g.l g.Sh) (hW : OwnS Eix 1 3 (.slice g.wa g.wl.length g.wc) g.wl g.Sw) (hE : OwnS Ebo 1 4 (.slice ea es.length ec) es g.Se) (xa : Option Addr) (xc : Nat) (w : List UInt8) (hwl : w.length ≤ 1000000) (hes : es.length = w.length + 1 ∨ (es = [] ∧ ec = 0)) (hgl : g.l.length ≤ m.length) (hgw : g.wl.length ≤ m.length) (f : Int) : HL.Fn Tryz.prog 24 [pt bS, .slice xa w.length xc, .int .i64 f] (fun W => Rd Eb W (.slice xa w.length xc) w ∧ Apart (keys ((bS, .cells [.slice ma m.length mc, .slice ta m.length tc, .int .i16 g.st, (.slice g.ha g.l.length g.hc), (.slice g.wa g.wl.length g.wc), .slice ea es.length ec, .int .i64 g.steps].toArray 154 (0, 0)) :: (Sm ++ (g.St ++ (g.Sh ++ (g.Sw ++ g.Se)))))) (.slice xa w.length xc)) ((bS, .cells [.slice ma m.length mc, .slice ta m.length tc, .int .i16 g.st, (.slice g.ha g.l.length g.hc), (.slice g.wa g.wl.length g.wc), .slice ea es.length ec, .int .i64 g.steps].toArray 154 (0, 0)) :: (Sm ++ (g.St ++ (g.Sh ++ (g.Sw ++ g.Se))))) (fun v S' => ∃ es' c S2, S' = c :: S2 ∧ SrE bS m w.length es' S2 ∧ ((∃ p q : Nat, v = .tuple #[.agg #[.int .i64 p, .int .i64 q], .bool true] ∧ 0 ≤ f ∧ LFound m w f.toNat p q) ∨ (v = .tuple #[.agg #[.int .i64 0, .int .i64 0], .bool false] ∧ (0 ≤ f → LNone m w f.toNat)))) := by
  refine fn_of Tryz.func24 rfl rfl rfl fun w0 hw => ?_
  have hxl := hw.1.sl
  have hm1 : 0 < m.length := hmok.1
  have hS0 : SrE bS m w.length es ((bS, .cells [.slice ma m.length mc, .slice ta m.length tc, .int .i16 g.st, (.slice g.ha g.l.length g.hc), (.slice g.wa g.wl.length g.wc), .slice ea es.length ec, .int .i64 0].toArray 154 (0, 0)) :: (Sm ++ (g.St ++ (g.Sh ++ (g.Sw ++ g.Se))))) := ⟨ma, mc, ta, tc, { g with steps := 0 }, l0, ea, ec, Sm, rfl, hm, hT, hM, h0, hl, hW, hE, hes, hgl, hgw⟩
  refine c_seq fun _ hK1 => ?_; refine c_region ?_; refine o_alloc (l := Esp ⟨0, 0⟩) rfl rfl fun b6 => ?_; refine o_step rfl (s_assign rfl) ?_; refine o_nil ?_; refine x_then (hK1 _ _ ?_); refine c_seq fun _ hK2 => ?_; refine c_seq fun _ hK3 => ?_; refine c_region ?_; refine o_step rfl (s_move rfl) ?_; refine o_step rfl (step_cast (v' := .bool false) (s_eql_nilp rfl rfl) rfl) ?_; refine o_step rfl (s_move rfl) ?_; refine o_yes rfl rfl ?_; refine o_step rfl (s_move rfl) ?_; refine o_yes rfl rfl ?_; refine o_step rfl (s_nil rfl) ?_; refine o_yes rfl rfl ?_; refine o_step rfl (s_field rfl rfl (by decide)) ?_; refine o_yes rfl rfl ?_; refine o_step rfl (s_ld rfl (.own meA rfl)) ?_; refine o_yes rfl rfl ?_; refine o_step rfl (s_len rfl) ?_; refine o_yes rfl rfl ?_; refine o_step rfl (step_cast (v' := .bool false) (s_eql rfl rfl) (by rw [decide_eq_false (by omega)])) ?_; refine o_step rfl (s_pick_f rfl rfl) ?_
  refine o_nil ?_; refine x_then (hK3 _ _ ?_); refine c_false rfl ?_; refine c_skip ?_; refine x_then (hK2 _ _ ?_); refine c_seq fun _ hK4 => ?_; refine c_region ?_; refine o_step rfl (s_move rfl) ?_; refine o_step rfl (s_nil rfl) ?_; refine o_step rfl (s_field rfl rfl (by decide)) ?_; refine o_store rfl rfl rfl upA ltA rfl ?_; refine o_nil ?_; refine x_then (hK4 _ _ ?_); refine c_seq fun _ hK5 => ?_; refine c_seq fun _ hK6 => ?_; refine c_region ?_; refine o_step rfl (s_move rfl) ?_
  by_cases hf0 : f < 0
  ·
   refine o_step rfl (step_cast (v' := .bool true) (s_lss rfl rfl) (by rw [decide_eq_true (by omega)])) ?_; refine o_nil ?_; refine x_then (hK6 _ _ ?_); refine c_true rfl ?_; refine c_seq fun _ hK7 => ?_; refine c_region ?_; refine o_step rfl (s_build (cs := [_, _]) (vs := []) rfl rfl (.nil)) ?_; refine o_stW rfl rfl upA lnA lnA onA ?_; refine o_step rfl (s_assign rfl) ?_; refine o_nil ?_; refine x_then (hK7 _ _ ?_); refine c_ret ?_; refine x_then_ret (?_); refine x_sub (Sub.refl _) (H' := (b6, .cells (Esp ⟨0, 0⟩).toArray 40 (0, 0)) :: ((bS, .cells [.slice ma m.length mc, .slice ta m.length tc, .int .i16 g.st, (.slice g.ha g.l.length g.hc), (.slice g.wa g.wl.length g.wc), .slice ea es.length ec, .int .i64 0].toArray 154 (0, 0)) :: (Sm ++ (g.St ++ (g.Sh ++ (g.Sw ++ g.Se)))))) hzB ?_; exact x_ret rfl (.agg inferInstance inferInstance rfl (RdPK.cels (.own meA)) lnA (.tmp rfl (.nil))) (⟨es, _, _, rfl, hS0, .inr ⟨rfl, fun h => by omega⟩⟩)
  ·
   obtain ⟨f, rfl⟩ : ∃ n : Nat, f = n := ⟨f.toNat, by omega⟩
   refine o_step rfl (step_cast (v' := .bool false) (s_lss rfl rfl) (by rw [decide_eq_false (by omega)])) ?_; refine o_nil ?_; refine x_then (hK6 _ _ ?_); refine c_false rfl ?_; refine c_skip ?_; refine x_then (hK5 _ _ ?_); refine c_seq fun _ hK8 => ?_; refine c_seq fun _ hK9 => ?_; refine c_region ?_; refine o_step rfl (s_move rfl) ?_; refine o_step rfl (s_assign rfl) ?_; refine o_nil ?_; refine x_then (hK9 _ _ ?_); refine c_block ?_
   -- not carried: 7
   refine c_loop3 (fun (p : Nat) (es' : List Bool) (S' : Hp) => f ≤ p ∧ SrE bS m w.length es' S' ∧ (∀ p' q', f ≤ p' → p' < p → p' ≤ q' → q' ≤ w.length → ¬ Hit m w p' q')) (fun (p : Nat) (es' : List Bool) (S' : Hp) => [(8, .int .i64 p)]) [(0, _), (1, _), (6, _)] (fun (p : Nat) (es' : List Bool) (S' : Hp) => (b6, .cells (Esp ⟨0, 0⟩).toArray 40 (0, 0)) :: S') (fun (p : Nat) (es' : List Bool) (S' : Hp) => w.length + 1 - p) f es _ ⟨Nat.le_refl _, hS0, fun p q h1 h2 => by omega⟩ sbA sbA hzB ?_
   rintro p es' S' ⟨hfp, hS', hnp⟩
   refine c_seq fun _ hK10 => ?_; refine c_seq fun _ hK11 => ?_; refine c_region ?_; refine o_step rfl (s_move rfl) ?_; refine o_step rfl (s_move rfl) ?_; refine o_step rfl (s_len rfl) ?_
   by_cases hpn : (p : Int) ≤ w.length
   ·
    refine o_step rfl (step_cast (v' := .bool true) (s_leq rfl rfl) (by rw [decide_eq_true (by omega)])) ?_; refine o_nil ?_; refine x_then (hK11 _ _ ?_); refine c_true rfl ?_; refine c_skip ?_; refine x_then (hK10 _ _ ?_); refine c_seq fun _ hK12 => ?_; refine c_block ?_; refine c_seq fun _ hK13 => ?_; refine c_region ?_; refine o_step rfl (s_move rfl) ?_; refine o_step rfl (s_move rfl) ?_; refine o_step rfl (s_move rfl) ?_; refine o_call (fromP_fn bS m w es' S' hS' hmr hmok xa xc hwl p (by omega)) rfl rfl rfl (pkA) (fun w st => ⟨(RdK.old hw.1 hw.2).out w st, St.apart_M st (by exact hiB) hw.1 hw.2 (by decide)⟩) (fun v37 S37 ⟨es2, last, hv37, hS37, hE37⟩ => ?_); subst hv37
    refine o_step rfl (s_assign rfl) ?_; refine o_nil ?_; refine x_then (hK13 _ _ ?_); refine c_seq fun _ hK14 => ?_; refine c_region ?_; refine o_step rfl (s_move rfl) ?_
    by_cases hla : last ≥ 0
    ·
     refine o_step rfl (step_cast (v' := .bool true) (s_geq rfl rfl) (by rw [decide_eq_true (by omega)])) ?_; refine o_nil ?_; refine x_then (hK14 _ _ ?_); refine c_true rfl ?_; refine c_seq fun _ hK15 => ?_; refine c_region ?_; refine o_step rfl (s_move rfl) ?_; refine o_step rfl (s_move rfl) ?_; refine o_step rfl (s_build (cs := [_, _]) (vs := [_, _]) rfl rfl (.cons rfl rfl rfl rfl rfl (.cons rfl rfl rfl rfl rfl (.nil)))) ?_; refine o_stW rfl rfl upA lnA lnA onA ?_; refine o_step rfl (s_assign rfl) ?_; refine o_nil ?_; refine x_then (hK15 _ _ ?_); refine c_ret ?_; refine x_block_ret (x_then_ret (x_then_ret (x_block_ret (x_then_ret (?_)))))
     refine x_sub (Sub.refl _) (H' := (b6, .cells [.int .i64 p, .int .i64 last].toArray 40 (0, 0)) :: S37) hzB ?_; exact x_ret rfl (.agg inferInstance inferInstance rfl (RdPK.cels (.own meA)) lnA (.tmp rfl (.nil))) (⟨es2, _, _, rfl, hS37, .inl ⟨p, last.toNat, by rw [Int.toNat_of_nonneg (by omega)]; rfl, by omega, hE37.yes (by omega) (by simpa using hfp) (by simpa using hnp)⟩⟩)
    ·
     refine o_step rfl (step_cast (v' := .bool false) (s_geq rfl rfl) (by rw [decide_eq_false (by omega)])) ?_; refine o_nil ?_; refine x_then (hK14 _ _ ?_); refine c_false rfl ?_; refine c_skip ?_; refine x_block ?_; refine x_then (hK12 _ _ ?_); refine c_region ?_; refine o_step rfl (s_move rfl) ?_; refine o_step rfl (s_add rfl rfl (by omega)) ?_; refine o_step rfl (s_assign rfl) ?_; refine o_nil ?_; exact x_then (x_inv (p + 1, es2, S37) ⟨by omega, hS37, fun p' q' h1 h2 h3 h4 => (Nat.lt_or_ge p' p).elim (fun h => hnp p' q' h1 h h3 h4) (fun h => (show p' = p by omega) ▸ (hE37.no (by omega) q' ((show p' = p by omega) ▸ h3) h4))⟩ (by first | omega | (dsimp only; omega)) sbA hzB)
   ·
    refine o_step rfl (step_cast (v' := .bool false) (s_leq rfl rfl) (by rw [decide_eq_false (by omega)])) ?_; refine o_nil ?_; refine x_then (hK11 _ _ ?_); refine c_false rfl ?_; refine c_exit ?_; refine x_then_exit ?_; refine x_then_exit ?_; refine x_block_exit ?_; refine x_then (hK8 _ _ ?_); refine c_seq fun _ hK16 => ?_; refine c_region ?_; refine o_step rfl (s_build (cs := [_, _]) (vs := []) rfl rfl (.nil)) ?_; refine o_stW rfl rfl upA lnA lnA onA ?_; refine o_step rfl (s_assign rfl) ?_; refine o_nil ?_; refine x_then (hK16 _ _ ?_); refine c_ret ?_; refine ?_; exact x_ret rfl (.agg inferInstance inferInstance rfl (RdPK.cels (.own meA)) lnA (.tmp rfl (.nil))) (⟨es', _, _, rfl, hS', .inr ⟨rfl, fun _ p' q' h1 h2 h3 => hnp p' q' (by simpa using h1) (by omega) h2 h3⟩⟩)

theorem lfind_fn (bS : Nat) (m : List In) (w : List UInt8) (es : List Bool) (S : Hp) (h : SrE bS m w.length es S) (hmr : ∀ x ∈ m, -128 ≤ x.op ∧ x.op < 128) (hmok : MOk m) (xa : Option Addr) (xc : Nat) (hwl : w.length ≤ 1000000) (f : Int) : HL.Fn Tryz.prog 24 [pt bS, .slice xa w.length xc, .int .i64 f] (fun W => Rd Eb W (.slice xa w.length xc) w ∧ Apart (keys S) (.slice xa w.length xc)) S (fun v S' => ∃ es', SrE bS m w.length es' S' ∧ ((∃ p q : Nat, v = .tuple #[.agg #[.int .i64 p, .int .i64 q], .bool true] ∧ 0 ≤ f ∧ LFound m w f.toNat p q) ∨ (v = .tuple #[.agg #[.int .i64 0, .int .i64 0], .bool false] ∧ (0 ≤ f → LNone m w f.toNat)))) := by
  obtain ⟨ma, mc, ta, tc, g, l1, ea, ec, Sm, rfl, hm, hT, hM, h0, hl, hW, hE, hes, hgl, hgw⟩ := h
  refine Fn.sub (lfindO_fn bS ma mc m ta tc g l1 ea ec es Sm hm hmr hmok hT hM h0 hl hW hE xa xc w hwl hes hgl hgw f) fun v S' ⟨es', c, S2, h1, h2, h3⟩ => ?_; subst h1
  exact ⟨S2, HSub.skip (HSub.refl _), es', h2, h3⟩
end Go.Proofs.YtopmnmigpbdddaaGreatDoor

/- Part of the proofs over this seat: see the text that holds the theorem. Conditions: each theorem bears its own. -/
namespace Go.HL.Kl.Mc
theorem hit_le {m : List In} {w : List UInt8} {a b : Nat} (h : Hit m w a b) : a ≤ b := by
  obtain ⟨i, t, ⟨n, hr⟩, _⟩ := h
  exact runN_le hr
theorem der_le {x : Nd} {ks : F} {w : List UInt8} (hw : (F.nd x ks .nil).wf) {a b : Nat} (h : der1 w x ks a b) : a ≤ b := hit_le ((mach_hit hw).2 h)
theorem LFound.lft {x : Nd} {ks : F} {w : List UInt8} {f p q : Nat} (hw : (F.nd x ks .nil).wf) (h : LFound (mach (.nd x ks .nil)) w f p q) : Lft w x ks f p q := by
  have key : ∀ a b, Hit (mach (.nd x ks .nil)) w a b ↔ der1 w x ks a b := fun a b => mach_hit hw
  refine ⟨h.fp, h.pq, h.qn, (key _ _).1 h.hit, fun p' q' h1 h2 h3 hd => ?_, fun q' h1 h2 hd => h.far q' h1 h2 ((key _ _).2 hd)⟩
  exact h.near p' q' h1 h2 (der_le hw hd) h3 ((key _ _).2 hd)
theorem LNone.lft {x : Nd} {ks : F} {w : List UInt8} {f : Nat} (hw : (F.nd x ks .nil).wf) (h : LNone (mach (.nd x ks .nil)) w f) : ¬ ∃ p q, f ≤ p ∧ q ≤ w.length ∧ der1 w x ks p q :=
  fun ⟨p, q, h1, h2, h3⟩ => h p q h1 (der_le hw h3) h2 ((mach_hit hw).2 h3)
theorem FindP.not {T : Nat} {re : List Nd} {w : List UInt8} {f : Nat} {x : Nd} {ks : F} (hM : May re w x ks) (h : LNone (mach (.nd x ks .nil)) w f) : FindP T re w f (.tuple #[.slice none 0 0, .bool false]) [] := by
  refine .inr ⟨fun ⟨x', ks', g, p, q, hM', hg, h1, h2, h3⟩ => ?_, rfl, rfl⟩
  obtain ⟨rfl, rfl⟩ := hM'.hs.uniq hM.hs
  have hg' : f = g := by omega
  subst hg'
  exact LNone.lft hM.hs.wf h ⟨p, q, h1, h2, h3⟩
theorem FindP.yes {T : Nat} {re : List Nd} {w : List UInt8} {f p q : Nat} {x : Nd} {ks : F} {v : Value} {S' : Hp} (hM : May re w x ks) (h : LFound (mach (.nd x ks .nil)) w f p q) (hb : BestP T re w p q v S') : FindP T re w f v S' := by
  have hl := h.lft hM.hs.wf
  rcases hb with ⟨x', ks', p', q', hM', hp, hq, h1, h2, h3, hC⟩ | ⟨hn, _⟩
  · obtain ⟨rfl, rfl⟩ := hM'.hs.uniq hM.hs
    have e1 : p = p' := by omega
    have e2 : q = q' := by omega
    subst e1 e2
    exact .inl ⟨x', ks', f, p, q, hM, rfl, hl, hC⟩
  · exact absurd ⟨x, ks, p, q, hM, rfl, rfl, h.pq, h.qn, hl.der⟩ hn
theorem FindP.out {T : Nat} {re : List Nd} {w : List UInt8} {f : Int} {x : Nd} {ks : F} (hM : May re w x ks) (h : f < 0 ∨ (w.length : Int) < f) : FindP T re w f (.tuple #[.slice none 0 0, .bool false]) [] := by
  refine .inr ⟨fun ⟨x', ks', g, p, q, hM', hg, h1, h2, h3⟩ => ?_, rfl, rfl⟩
  have := der_le hM'.hs.wf h3
  omega
end Go.HL.Kl.Mc

/- A slice out of the middle of one. Conditions: none. -/
namespace Go.HL
open Go
def midA (a : Option Addr) (c lo k : Nat) : Option Addr := if c = lo then a else a.map (·.add (lo * k))
section
variable {P : Program} {κ : Cx} {L : HL.Loc} {H : Hp} {ty t : TypeId} {x y z : Operand}
end
end Go.HL

/- The document's walk through the best derivation. Conditions: none. -/
namespace Go.HL.Kl.Mc
open Go Go.HL Go.HL.Kl AskE
structure WalkE where
  (bW : Nat)
  (ra : Option Addr) (rc : Nat) (re : List Nd) (ta : Option Addr) (tc : Nat) (tx : List UInt8) (ca : Option Addr) (N cc : Nat)
namespace WalkE
abbrev vre (K : WalkE) : Value := .slice K.ra K.re.length K.rc
abbrev vtx (K : WalkE) : Value := .slice K.ta K.tx.length K.tc
abbrev vca (K : WalkE) : Value := .slice K.ca K.N K.cc
abbrev cells (K : WalkE) : List Value := [K.vre, K.vtx, K.vca]
end WalkE
structure EnvW (w : World) (K : WalkE) (M : List Nat) : Prop where
  p1 : RdP w K.bW 0 K.cells
  d1 : Rd En w K.vre K.re
  d2 : Rd Eb w K.vtx K.tx
  n1 : K.bW ∉ M
  a1 : Apart M K.vre
  a2 : Apart M K.vtx
structure WalkE.ok (K : WalkE) : Prop where
  rng : ∀ x ∈ K.re, -128 ≤ x.op ∧ x.op < 128
  no8 : ∀ x ∈ K.re, ¬ x.op = 8
  len : K.re.length ≤ 1000000
  tx : K.tx.length ≤ 1000000
def BestK (P : Program) (K : WalkE) (fn T : Nat) (x : Nd) (ks : F) : Prop := ∀ (i i1 p q : Nat) (cs : List Sp) (Sc : Hp), Part K.re (.nd x ks .nil) i i1 → p ≤ q → q ≤ K.tx.length → der1 K.tx x ks p q → cs.length = K.N → Slots K.re K.N → OwnS Esp 2 T K.vca cs Sc →
  Fn P fn [pt K.bW, .int .i64 i, .int .i64 p, .int .i64 q] (fun W => EnvW W K (keys Sc)) Sc (fun _ S' => OwnS Esp 2 T K.vca (bst1 K.tx x ks p q cs) S')
def CapR (x : Nd) (r s : Nat) : Prop := r = s ∨ (x.mx = -1 ∧ max x.mn.toNat 1 ≤ r ∧ s = max x.mn.toNat 1)
end Go.HL.Kl.Mc

/- Answers are told by the regex, the text, the place. Conditions: none. -/
namespace Go.HL
open Go
end Go.HL
namespace Go.HL.Kl.Mc
open Go Go.HL Go.HL.Kl
def FRes (re : List Nd) (w : List UInt8) (f : Int) (b : Bool) (L : List Sp) : Prop :=
  (∃ x ks, ∃ g p q : Nat, May re w x ks ∧ f = g ∧ Lft w x ks g p q ∧ b = true ∧ L = capsV w re x ks p q) ∨
  ((¬ ∃ x ks, ∃ g p q : Nat, May re w x ks ∧ f = g ∧ g ≤ p ∧ q ≤ w.length ∧ der1 w x ks p q) ∧ b = false ∧ L = [])
def BRes (re : List Nd) (w : List UInt8) (fr to : Int) (b : Bool) (L : List Sp) : Prop :=
  (∃ x ks, ∃ p q : Nat, May re w x ks ∧ fr = p ∧ to = q ∧ p ≤ q ∧ q ≤ w.length ∧ der1 w x ks p q ∧ b = true ∧ L = capsV w re x ks p q) ∨
  ((¬ ∃ x ks, ∃ p q : Nat, May re w x ks ∧ fr = p ∧ to = q ∧ p ≤ q ∧ q ≤ w.length ∧ der1 w x ks p q) ∧ b = false ∧ L = [])
theorem BestP.res {T : Nat} {re : List Nd} {w : List UInt8} {fr to : Int} {v : Value} {S' : Hp} (h : BestP T re w fr to v S') : ∃ b L a c, BRes re w fr to b L ∧ v = .tuple #[.slice a L.length c, .bool b] ∧ OwnS Esp 2 T (.slice a L.length c) L S' := by
  rcases h with ⟨x, ks, p, q, hm, h1, h2, h3, h4, h5, a, cc, hv, hO⟩ | ⟨hn, hv, rfl⟩
  · exact ⟨true, _, a, cc, .inl ⟨x, ks, p, q, hm, h1, h2, h3, h4, h5, rfl, rfl⟩, hv, hO⟩
  · exact ⟨false, [], none, 0, .inr ⟨hn, rfl, rfl⟩, hv, .nil⟩
def spB (j : Nat) : UInt8 := UInt8.ofNat (279 + 7 * j + 3)
def xor3 (x : UInt8) : UInt8 := UInt8.ofNat (BitVec.ofInt 8 (x.toNat : Int) ^^^ BitVec.ofInt 8 3).toNat
end Go.HL.Kl.Mc

/- Part of the proofs over this seat: see the text that holds the theorem. Conditions: each theorem bears its own. -/
namespace Go.Proofs.YtopmnmigpbdddaaGreatDoor
open Go Go.HL Go.Proofs Go.HL.Kl Go.HL.Kl.Mc Go.HL.Kl.Mc.AskE
def PlR (bR : Nat) (re : List Nd) (S : Hp) : Prop := ∃ (x : Nd) (ks : F) (a am : Option Addr) (c : Nat) (Sr Sm : Hp), shapedB re = true ∧ refsB re = false ∧ Shp re x ks ∧
  S = (bR, .cells [.slice a re.length c, .iface 130 (.agg #[.slice am (mach (.nd x ks .nil)).length (mach (.nd x ks .nil)).length]), .int .i64 ((gcn re : Nat) : Int)].toArray 127 (0, 0)) :: (Sr ++ Sm) ∧ OwnS En 9 108 (.slice a re.length c) re Sr ∧ OwnS Ein 7 145 (.slice am (mach (.nd x ks .nil)).length (mach (.nd x ks .nil)).length) (mach (.nd x ks .nil)) Sm
inductive NewP (re : List Nd) (v : Value) (S' : Hp) : Prop
  | shape (hs : shapedB re = false) (hv : v = .tuple #[.pointer none, .int .i64 49])
  | ref {bR : Nat} {a : Option Addr} {c : Nat} {Sr : Hp} (hs : shapedB re = true) (hr : refsB re = true) (hv : v = .tuple #[pt bR, .int .i64 0]) (hS : S' = (bR, .cells [.slice a re.length c, .iface 128 (.int .i64 4611686018427387904), .int .i64 ((gcn re : Nat) : Int)].toArray 127 (0, 0)) :: Sr) (ho : OwnS En 9 108 (.slice a re.length c) re Sr)
  | ok {bR : Nat} (hs : shapedB re = true) (hr : refsB re = false) (hv : v = .tuple #[pt bR, .int .i64 0]) (hS : PlR bR re S')

theorem cloneN_fn (a : Option Addr) (c : Nat) (xs : List Nd) (hxl : xs.length ≤ 1000000) : HL.Fn Tryz.prog 59 [.slice a xs.length c] (fun w => Rd En w (.slice a xs.length c) xs) [] (fun v S' => ∃ a' c', v = .slice a' xs.length c' ∧ OwnS En 9 108 (.slice a' xs.length c') xs S') := by
  refine fn_of Tryz.func59 rfl rfl rfl fun w0 hw => ?_
  have hsx := hw.sl
  have hbx := hsx.le
  refine c_seq fun _ hK1 => ?_; refine c_region ?_; refine o_step rfl (s_assign rfl) ?_; refine o_nil ?_; refine x_then (hK1 _ _ ?_); refine c_seq fun _ hK2 => ?_; refine c_seq fun _ hK3 => ?_; refine c_region ?_; refine o_step rfl (s_move rfl) ?_; refine o_step rfl (s_eql_nils rfl rfl) ?_; refine o_nil ?_; refine x_then (hK3 _ _ ?_); refine c_cond rfl (fun hn => ?_) (fun hn => ?_)
  ·
   have ha : a = none := Option.isNone_iff_eq_none.1 hn
   subst ha
   have hx0 : xs = [] := List.eq_nil_of_length_eq_zero hsx.none
   subst hx0; refine c_seq fun _ hK4 => ?_; refine c_region ?_; refine o_step rfl (s_assign rfl) ?_; refine o_nil ?_; refine x_then (hK4 _ _ ?_); refine c_ret ?_; refine x_then_ret (?_); exact x_ret rfl (.tmp rfl (.nil)) (⟨_, _, rfl, .nil⟩)
  ·
   refine c_skip ?_; refine x_then (hK2 _ _ ?_); refine c_seq fun _ hK5 => ?_; refine c_region ?_; refine o_bs (E := En) (xs := []) (vs := []) rfl rfl rfl rfl rfl (by decide) (by decide) fun b5 S5 hS5 => ?_; refine o_step rfl (s_move rfl) ?_; refine o_app hS5 (RdK.old0 hw) rfl rfl rfl rfl (by simp; omega) (by simp; omega) rfl pkA fun a7 c7 S7 hS7 => ?_; refine o_step rfl (s_assign rfl) ?_; refine o_nil ?_; refine x_then (hK5 _ _ ?_); refine c_ret ?_; refine ?_
   simp only [List.nil_append] at hS7
   exact x_ret rfl (.tmp rfl (.nil)) (⟨_, _, rfl, by simpa using hS7⟩)

set_option maxHeartbeats 2000000 in
theorem new_re (ra : Option Addr) (rc : Nat) (re : List Nd) (hre : ∀ x ∈ re, -128 ≤ x.op ∧ x.op < 128) : HL.Fn Tryz.prog 13 [.slice ra re.length rc] (fun W => Rd En W (.slice ra re.length rc) re) [] (NewP re) := by
  refine fn_of Tryz.func13 rfl rfl rfl fun w0 hw => ?_
  have hsl := hw.sl
  have hbl := hsl.le
  refine c_seq fun _ hK1 => ?_; refine c_region ?_; refine o_step rfl (s_assign rfl) ?_; refine o_step rfl (s_assign rfl) ?_; refine o_nil ?_; refine x_then (hK1 _ _ ?_); refine c_seq fun _ hK2 => ?_; refine c_seq fun _ hK3 => ?_; refine c_region ?_; refine o_step rfl (s_move rfl) ?_; refine o_callP (shaped_fn ra rc re hre) rfl rfl rfl (fun _ st => (RdK.old0 hw).out _ st) (fun v8 hv8 => ?_); subst hv8
  cases hsh : shapedB re
  ·
   refine o_step rfl (s_not rfl) ?_; refine o_nil ?_; refine x_then (hK3 _ _ ?_); refine c_true rfl ?_; refine c_seq fun _ hK4 => ?_; refine c_region ?_; refine o_step rfl (s_assign rfl) ?_; refine o_step rfl (s_assign rfl) ?_; refine o_nil ?_; refine x_then (hK4 _ _ ?_); refine c_ret ?_; refine x_then_ret (?_); exact x_ret rfl (.tmp rfl (.tmp rfl (.nil))) (.shape hsh rfl)
  ·
   have hrl : re.length ≤ 16384 := by obtain ⟨_, x, ks, hs⟩ := shapedB_iff.1 hsh; exact hs.len
   refine o_step rfl (s_not rfl) ?_; refine o_nil ?_; refine x_then (hK3 _ _ ?_); refine c_false rfl ?_; refine c_skip ?_; refine x_then (hK2 _ _ ?_); refine c_seq fun _ hK5 => ?_; refine c_region ?_; refine o_step rfl (s_move rfl) ?_; refine o_call (cloneN_fn ra rc re (by omega)) rfl rfl rfl (by exact .nil) (fun _ st => (RdK.old0 hw).out _ st) (fun v11 S11 ⟨a11, c11, hv11, hS11⟩ => ?_); subst hv11
   refine o_step rfl (s_move rfl) ?_; refine o_callP (groups_fn ra rc re hre) rfl rfl rfl (fun _ st => (RdK.old0 hw).out _ st) (fun v13 hv13 => ?_)
   rw [if_pos hsh] at hv13
   subst hv13; refine o_step rfl (s_build (cs := [_, _, _]) (vs := [_, _]) rfl rfl (.cons rfl rfl rfl rfl rfl (.cons rfl rfl rfl rfl rfl (.nil)))) ?_; refine o_box rfl rfl rfl fun b15 => ?_; refine o_step rfl (s_assign rfl) ?_; refine o_nil ?_; refine x_then (hK5 _ _ ?_); refine c_seq fun _ hK6 => ?_; refine c_seq fun _ hK7 => ?_; refine c_region ?_; refine o_step rfl (s_move rfl) ?_; refine o_callP (refs_fn ra rc re hre) rfl rfl rfl (fun _ st => (RdK.old0 hw).out _ st) (fun v17 hv17 => ?_); subst hv17
   cases hrf : refsB re
   ·
    refine o_nil ?_; refine x_then (hK7 _ _ ?_); refine c_false rfl ?_; refine c_skip ?_; refine x_then (hK6 _ _ ?_); refine c_seq fun _ hK8 => ?_; refine c_region ?_; refine o_step rfl (s_move rfl) ?_; refine o_call (compileO_fn ra rc re hre) rfl rfl rfl (by exact .nil) (fun _ st => (RdK.old0 hw).out _ st) (fun v25 S25 hC => ?_)
    obtain ⟨x, ks, am, hSh, rfl, hOm⟩ : ∃ x ks am, Shp re x ks ∧ v25 = .tuple #[.slice am (mach (.nd x ks .nil)).length (mach (.nd x ks .nil)).length, .int .i64 0] ∧ OwnS Ein 7 145 (.slice am (mach (.nd x ks .nil)).length (mach (.nd x ks .nil)).length) (mach (.nd x ks .nil)) S25 := by cases hC with | shape h => (rw [hsh] at h; cases h) | ref _ h => (rw [hrf] at h; cases h) | ok _ _ h hv hm => exact ⟨_, _, _, h, hv, hm⟩
    refine o_step rfl (s_move rfl) ?_; refine o_step rfl (s_extract rfl rfl) ?_; refine o_step rfl (s_extract rfl rfl) ?_; refine o_step rfl (s_assign rfl) ?_; refine o_step rfl (s_assign rfl) ?_; refine o_nil ?_; refine x_then (hK8 _ _ ?_); refine c_seq fun _ hK9 => ?_; refine c_seq fun _ hK10 => ?_; refine c_region ?_; refine o_step rfl (s_move rfl) ?_; refine o_step rfl (step_cast (v' := .bool false) (s_neq rfl rfl) rfl) ?_; refine o_nil ?_; refine x_then (hK10 _ _ ?_); refine c_false rfl ?_; refine c_skip ?_; refine x_then (hK9 _ _ ?_); refine c_seq fun _ hK11 => ?_; refine c_region ?_; refine o_step rfl (s_move rfl) ?_; refine o_step rfl (s_move rfl) ?_; refine o_step rfl (s_build (cs := [_]) (vs := [_]) rfl rfl (.cons rfl rfl rfl rfl rfl (.nil))) ?_; refine o_step rfl (s_iface (by kernel_rfl) rfl) ?_; refine o_step rfl (s_nil rfl) ?_; refine o_step rfl (s_field rfl rfl (by decide)) ?_
    refine o_store rfl rfl rfl upA ltA rfl ?_; refine o_nil ?_; refine x_then (hK11 _ _ ?_); refine c_seq fun _ hK12 => ?_; refine c_region ?_; refine o_step rfl (s_move rfl) ?_; refine o_step rfl (s_assign rfl) ?_; refine o_step rfl (s_assign rfl) ?_; refine o_nil ?_; refine x_then (hK12 _ _ ?_); refine c_ret ?_; refine ?_; refine x_sub (Sub.refl _) (H' := (b15, .cells [.slice a11 re.length c11, .iface 130 (.agg #[.slice am (mach (.nd x ks .nil)).length (mach (.nd x ks .nil)).length]), .int .i64 ((gcn re : Nat) : Int)].toArray 127 (0, 0)) :: (S11 ++ S25)) hzB ?_; exact x_ret rfl (.tmp rfl (.tmp rfl (.nil))) (.ok hsh hrf rfl ⟨x, ks, a11, am, c11, S11, S25, hsh, hrf, hSh, rfl, hS11, hOm⟩)
   ·
    refine o_nil ?_; refine x_then (hK7 _ _ ?_); refine c_true rfl ?_; refine c_seq fun _ hK13 => ?_; refine c_region ?_; refine o_step rfl (s_move rfl) ?_; refine o_step rfl (s_iface (by kernel_rfl) rfl) ?_; refine o_step rfl (s_nil rfl) ?_; refine o_step rfl (s_field rfl rfl (by decide)) ?_; refine o_store rfl rfl rfl upA ltA rfl ?_; refine o_nil ?_; refine x_then (hK13 _ _ ?_); refine c_seq fun _ hK14 => ?_; refine c_region ?_; refine o_step rfl (s_move rfl) ?_; refine o_step rfl (s_assign rfl) ?_; refine o_step rfl (s_assign rfl) ?_; refine o_nil ?_; refine x_then (hK14 _ _ ?_); refine c_ret ?_; refine x_then_ret (?_); refine x_sub (Sub.refl _) (H' := (b15, .cells [.slice a11 re.length c11, .iface 128 (.int .i64 4611686018427387904), .int .i64 ((gcn re : Nat) : Int)].toArray 127 (0, 0)) :: S11) hzB ?_; exact x_ret rfl (.tmp rfl (.tmp rfl (.nil))) (.ref hsh hrf rfl rfl hS11)

set_option maxHeartbeats 2000000 in
theorem plainO_fn (ra : Option Addr) (rc : Nat) (re : List Nd) (hre : ∀ x ∈ re, -128 ≤ x.op ∧ x.op < 128) (xa : Option Addr) (xc : Nat) (w : List UInt8) (hwl : w.length ≤ 1000000) (x : Nd) (ks : F) (hM : May re w x ks) (ma : Option Addr) (mc : Nat) (f : Nat) : HL.Fn Tryz.prog 62 [.agg #[.slice ma (mach (.nd x ks .nil)).length mc], .slice ra re.length rc, .slice xa w.length xc, .int .i64 f] (fun W => Rd Ein W (.slice ma (mach (.nd x ks .nil)).length mc) (mach (.nd x ks .nil)) ∧ Rd En W (.slice ra re.length rc) re ∧ Rd Eb W (.slice xa w.length xc) w) [] (fun v S' => ∃ S2, HSub S' S2 ∧ FindP 40 re w f v S2) := by
  refine fn_of Tryz.func62 rfl rfl rfl fun w0 hw => ?_
  have hsl := hw.2.1.sl
  have hxl := hw.2.2.sl
  have hmok : MOk (mach (.nd x ks .nil)) := hM.hs.mok
  refine c_seq fun _ hK1 => ?_; refine c_region ?_; refine o_box rfl rfl rfl fun b4 => ?_; refine o_step rfl (s_assign rfl) ?_; refine o_step rfl (s_assign rfl) ?_; refine o_nil ?_; refine x_then (hK1 _ _ ?_); refine c_seq fun _ hK2 => ?_; refine c_region ?_; refine o_step rfl (s_field rfl rfl (by decide)) ?_; refine o_step rfl (s_ld rfl (.own meA rfl)) ?_; refine o_call (lnew_fn ma mc (mach (.nd x ks .nil))) rfl rfl rfl (by exact .nil) (fun _ st => (RdK.old0 hw.1).out _ st) (fun v17 S17 hN => ?_)
  obtain ⟨bS, rfl, hSr⟩ : ∃ bS, v17 = .tuple #[pt bS, .int .i64 0] ∧ ∀ n, SrE bS (mach (.nd x ks .nil)) n [] S17 := by rcases hN with ⟨h, _⟩ | ⟨_, h⟩; (· rw [mokB_iff.2 hmok] at h; cases h); (· exact h)
  refine o_step rfl (s_move rfl) ?_; refine o_step rfl (s_extract rfl rfl) ?_; refine o_step rfl (s_extract rfl rfl) ?_; refine o_step rfl (s_assign rfl) ?_; refine o_step rfl (s_assign rfl) ?_; refine o_nil ?_; refine x_then (hK2 _ _ ?_); refine c_seq fun _ hK3 => ?_; refine c_seq fun _ hK4 => ?_; refine c_region ?_; refine o_step rfl (s_move rfl) ?_; refine o_step rfl (step_cast (v' := .bool false) (s_neq rfl rfl) rfl) ?_; refine o_nil ?_; refine x_then (hK4 _ _ ?_); refine c_false rfl ?_; refine c_skip ?_; refine x_then (hK3 _ _ ?_); refine c_seq fun _ hK5 => ?_; refine c_region ?_; refine o_step rfl (s_move rfl) ?_; refine o_step rfl (s_move rfl) ?_; refine o_step rfl (s_move rfl) ?_; refine o_call (lfind_fn bS (mach (.nd x ks .nil)) w [] S17 (hSr w.length) (fun u hu => by obtain ⟨i, hi⟩ := List.mem_iff_getElem?.1 hu; have := (hmok.2.2 i u hi).1.1; omega) hmok xa xc hwl f) rfl rfl rfl (pkA) (fun w st => ⟨(RdK.old0 hw.2.2).out w st, St.apart_M st (by exact hiB) hw.2.2 Apart.nil (by decide)⟩) (fun v26 S26 ⟨es2, hS26, hF⟩ => ?_)
  rcases hF with ⟨p, q, rfl, _, hL⟩ | ⟨rfl, hL⟩
  ·
   rw [Int.toNat_natCast] at hL
   refine o_step rfl (s_move rfl) ?_; refine o_step rfl (s_extract rfl rfl) ?_; refine o_step rfl (s_extract rfl rfl) ?_; refine o_alloc (l := Esp ⟨0, 0⟩) rfl rfl fun b12 => ?_; refine o_stW rfl rfl upA lnA lnA onA ?_; refine o_step rfl (s_assign rfl) ?_; refine o_nil ?_; refine x_then (hK5 _ _ ?_); refine c_seq fun _ hK6 => ?_; refine c_seq fun _ hK7 => ?_; refine c_region ?_; refine o_step rfl (s_move rfl) ?_; refine o_step rfl (s_not rfl) ?_; refine o_nil ?_; refine x_then (hK7 _ _ ?_); refine c_false rfl ?_; refine c_skip ?_; refine x_then (hK6 _ _ ?_); refine c_seq fun _ hK8 => ?_; refine c_region ?_; refine o_step rfl (s_move rfl) ?_; refine o_step rfl (s_move rfl) ?_; refine o_step rfl (s_ldB rfl (RdPK.cels (.own meA)) lnA) ?_; refine o_call (best_fn ra rc re hre xa xc w hwl p q) rfl rfl rfl (by exact .nil) (fun _ st => ⟨(RdK.old0 hw.2.1).out _ st, (RdK.old0 hw.2.2).out _ st⟩) (fun v34 S34 hB => ?_)
   obtain ⟨v1, v2, rfl⟩ : ∃ v1 v2, v34 = .tuple #[v1, v2] := by obtain ⟨b, L, a, c, _, h, _⟩ := hB.res; exact ⟨_, _, h⟩
   refine o_step rfl (s_extract rfl rfl) ?_; refine o_step rfl (s_extract rfl rfl) ?_; refine o_step rfl (s_assign rfl) ?_; refine o_step rfl (s_assign rfl) ?_; refine o_nil ?_; refine x_then (hK8 _ _ ?_); refine c_ret ?_; refine ?_; exact x_ret rfl (.tmp rfl (.tmp rfl (.nil))) (⟨S34, hzB, FindP.yes hM hL hB⟩)
  ·
   have hL2 := hL (by omega)
   rw [Int.toNat_natCast] at hL2
   refine o_step rfl (s_move rfl) ?_; refine o_step rfl (s_extract rfl rfl) ?_; refine o_step rfl (s_extract rfl rfl) ?_; refine o_alloc (l := Esp ⟨0, 0⟩) rfl rfl fun b12 => ?_; refine o_stW rfl rfl upA lnA lnA onA ?_; refine o_step rfl (s_assign rfl) ?_; refine o_nil ?_; refine x_then (hK5 _ _ ?_); refine c_seq fun _ hK9 => ?_; refine c_seq fun _ hK10 => ?_; refine c_region ?_; refine o_step rfl (s_move rfl) ?_; refine o_step rfl (s_not rfl) ?_; refine o_nil ?_; refine x_then (hK10 _ _ ?_); refine c_true rfl ?_; refine c_seq fun _ hK11 => ?_; refine c_region ?_; refine o_step rfl (s_assign rfl) ?_; refine o_step rfl (s_assign rfl) ?_; refine o_nil ?_; refine x_then (hK11 _ _ ?_); refine c_ret ?_; refine x_then_ret (?_); exact x_ret rfl (.tmp rfl (.tmp rfl (.nil))) (⟨[], HSub.nil, FindP.not hM hL2⟩)
end Go.Proofs.YtopmnmigpbdddaaGreatDoor

/- Part of the proofs over this seat: see the text that holds the theorem. Conditions: each theorem bears its own. -/
namespace Go.Proofs.YtopmnmigpbdddaaGreatDoor
open Go Go.HL Go.Proofs Go.HL.Kl Go.HL.Kl.Mc Go.HL.Kl.Mc.AskE
set_option maxHeartbeats 2000000 in
theorem findO_re (bR : Nat) (ra : Option Addr) (rc : Nat) (re : List Nd) (hre : ∀ x ∈ re, -128 ≤ x.op ∧ x.op < 128) (xa : Option Addr) (xc : Nat) (w : List UInt8) (hwl : w.length ≤ 1000000) (x : Nd) (ks : F) (hM : May re w x ks) (ma : Option Addr) (mc : Nat) (f : Int) : HL.Fn Tryz.prog 14 [pt bR, .slice xa w.length xc, .int .i64 f] (fun W => RdP W bR 0 [.slice ra re.length rc, .iface 130 (.agg #[.slice ma (mach (.nd x ks .nil)).length mc]), .int .i64 ((gcn re : Nat) : Int)] ∧ Rd Ein W (.slice ma (mach (.nd x ks .nil)).length mc) (mach (.nd x ks .nil)) ∧ Rd En W (.slice ra re.length rc) re ∧ Rd Eb W (.slice xa w.length xc) w) [] (fun v S' => ∃ S2, HSub S' S2 ∧ FindP 40 re w f v S2) := by
  refine fn_of Tryz.func14 rfl rfl rfl fun w0 hw => ?_
  have hsl := hw.2.2.1.sl
  have hxl := hw.2.2.2.sl
  refine c_seq fun _ hK1 => ?_; refine c_region ?_; refine o_step rfl (s_assign rfl) ?_; refine o_step rfl (s_assign rfl) ?_; refine o_nil ?_; refine x_then (hK1 _ _ ?_); refine c_seq fun _ hK2 => ?_; refine c_seq fun _ hK3 => ?_; refine c_region ?_; refine o_step rfl (s_move rfl) ?_; refine o_step rfl (step_cast (v' := .bool false) (s_eql_nilp rfl rfl) rfl) ?_; refine o_step rfl (s_move rfl) ?_; refine o_yes rfl rfl ?_; refine o_step rfl (s_move rfl) ?_; refine o_yes rfl rfl ?_
  by_cases hf0 : f < 0
  ·
   refine o_step rfl (step_cast (v' := .bool true) (s_lss rfl rfl) (by rw [decide_eq_true (by omega)])) ?_; refine o_step rfl (s_pick_f rfl rfl) ?_; refine o_step rfl (s_move rfl) ?_; refine o_no rfl rfl rfl rfl ?_; refine o_no rfl rfl rfl rfl ?_; refine o_no rfl rfl rfl rfl ?_; refine o_no rfl rfl rfl rfl ?_; refine o_step rfl (s_pick_t rfl rfl) ?_; refine o_nil ?_; refine x_then (hK3 _ _ ?_); refine c_true rfl ?_; refine c_seq fun _ hK4 => ?_; refine c_region ?_; refine o_step rfl (s_assign rfl) ?_; refine o_step rfl (s_assign rfl) ?_; refine o_nil ?_; refine x_then (hK4 _ _ ?_); refine c_ret ?_; refine x_then_ret (?_); exact x_ret rfl (.tmp rfl (.tmp rfl (.nil))) (⟨[], HSub.nil, FindP.out hM (.inl hf0)⟩)
  ·
   obtain ⟨f, rfl⟩ : ∃ n : Nat, f = n := ⟨f.toNat, by omega⟩
   refine o_step rfl (step_cast (v' := .bool false) (s_lss rfl rfl) (by rw [decide_eq_false (by omega)])) ?_; refine o_step rfl (s_pick_f rfl rfl) ?_; refine o_step rfl (s_move rfl) ?_; refine o_yes rfl rfl ?_; refine o_step rfl (s_move rfl) ?_; refine o_yes rfl rfl ?_; refine o_step rfl (s_move rfl) ?_; refine o_yes rfl rfl ?_; refine o_step rfl (s_len rfl) ?_; refine o_yes rfl rfl ?_
   by_cases hfn : (f : Int) > w.length
   ·
    refine o_step rfl (step_cast (v' := .bool true) (s_gtr rfl rfl) (by rw [decide_eq_true (by omega)])) ?_; refine o_step rfl (s_pick_f rfl rfl) ?_; refine o_nil ?_; refine x_then (hK3 _ _ ?_); refine c_true rfl ?_; refine c_seq fun _ hK5 => ?_; refine c_region ?_; refine o_step rfl (s_assign rfl) ?_; refine o_step rfl (s_assign rfl) ?_; refine o_nil ?_; refine x_then (hK5 _ _ ?_); refine c_ret ?_; refine x_then_ret (?_); exact x_ret rfl (.tmp rfl (.tmp rfl (.nil))) (⟨[], HSub.nil, FindP.out hM (.inr (by omega))⟩)
   ·
    refine o_step rfl (step_cast (v' := .bool false) (s_gtr rfl rfl) (by rw [decide_eq_false (by omega)])) ?_; refine o_step rfl (s_pick_f rfl rfl) ?_; refine o_nil ?_; refine x_then (hK3 _ _ ?_); refine c_false rfl ?_; refine c_skip ?_; refine x_then (hK2 _ _ ?_); refine c_seq fun _ hK6 => ?_; refine c_seq fun _ hK7 => ?_; refine c_region ?_; refine o_step rfl (s_move rfl) ?_; refine o_step rfl (s_nil rfl) ?_; refine o_step rfl (s_field rfl rfl (by decide)) ?_; refine o_step rfl (s_ld rfl ((RdPK.old0 hw.1).cel (j := 1) rfl rfl)) ?_; refine o_nil ?_; refine x_then (hK7 _ _ ?_); refine c_block ?_; refine c_seq fun _ hK8 => ?_; refine c_region ?_; refine o_step rfl (s_tas_t (by kernel_rfl) rfl) ?_; refine o_step rfl (s_extract rfl rfl) ?_; refine o_step rfl (s_extract rfl rfl) ?_; refine o_nil ?_; refine x_then (hK8 _ _ ?_); refine c_true rfl ?_; refine c_seq fun _ hK9 => ?_; refine c_region ?_
    refine o_alloc (l := [.slice none 0 0]) rfl rfl fun b8 => ?_; refine o_stW rfl rfl upA lnA lnA onA ?_; refine o_nil ?_; refine x_then (hK9 _ _ ?_); refine c_seq fun _ hK10 => ?_; refine c_drawE ([(b8, .cells [.slice ma (mach (.nd x ks .nil)).length mc].toArray 130 (0, 0))]) (fun i => false) ?_; refine e_tk 0 rfl hzB (s_ldB rfl (RdPK.cels (.own meA)) lnA) ?_; refine e_pr 1 rfl (s_move rfl) ?_; refine e_pr 2 rfl (s_nil rfl) ?_; refine e_pr 3 rfl (s_field rfl rfl (by decide)) ?_; refine e_tk 4 rfl hzB (s_ld rfl ((RdPK.old0 hw.1).cel (j := 0) rfl rfl)) ?_; refine e_pr 5 rfl (s_move rfl) ?_; refine e_pr 6 rfl (s_move rfl) ?_; refine e_one 7 rfl (by kernel_rfl) ?_; refine o_call (plainO_fn ra rc re hre xa xc w hwl x ks hM ma mc f) rfl rfl rfl (by exact .nil) (fun _ st => ⟨(RdK.old0 hw.2.1).out _ st, (RdK.old0 hw.2.2.1).out _ st, (RdK.old0 hw.2.2.2).out _ st⟩) (fun v36 S36 ⟨S2, hs36, hB⟩ => ?_)
    obtain ⟨v1, v2, rfl⟩ : ∃ v1 v2, v36 = .tuple #[v1, v2] := by rcases hB with ⟨_, _, _, _, _, _, _, _, _, _, h, _⟩ | ⟨_, h, _⟩ <;> exact ⟨_, _, h⟩
    refine o_nil ?_; refine x_oneS hzB ?_; refine e_pr 8 rfl (s_extract rfl rfl) ?_; refine e_pr 9 rfl (s_extract rfl rfl) ?_; refine e_one 10 rfl (by kernel_rfl) ?_; refine o_step rfl (s_assign rfl) ?_; refine o_nil ?_; refine x_oneS hzB ?_; refine e_one 11 rfl (by kernel_rfl) ?_; refine o_step rfl (s_assign rfl) ?_; refine o_nil ?_; refine x_oneS hzB ?_; refine e_done (by kernel_rfl) ?_; refine x_then (hK10 _ _ ?_); refine c_ret ?_; refine x_block_ret (x_then_ret (?_))
    exact x_ret rfl (.tmp rfl (.tmp rfl (.nil))) (⟨S2, HSub.trans hzB hs36, hB⟩)

theorem find_re (bR : Nat) (ra : Option Addr) (rc : Nat) (re : List Nd) (hre : ∀ x ∈ re, -128 ≤ x.op ∧ x.op < 128) (xa : Option Addr) (xc : Nat) (w : List UInt8) (hwl : w.length ≤ 1000000) (x : Nd) (ks : F) (hM : May re w x ks) (ma : Option Addr) (mc : Nat) (f : Int) : HL.Fn Tryz.prog 14 [pt bR, .slice xa w.length xc, .int .i64 f] (fun W => RdP W bR 0 [.slice ra re.length rc, .iface 130 (.agg #[.slice ma (mach (.nd x ks .nil)).length mc]), .int .i64 ((gcn re : Nat) : Int)] ∧ Rd Ein W (.slice ma (mach (.nd x ks .nil)).length mc) (mach (.nd x ks .nil)) ∧ Rd En W (.slice ra re.length rc) re ∧ Rd Eb W (.slice xa w.length xc) w) [] (FindP 40 re w f) :=
  Fn.sub (findO_re bR ra rc re hre xa xc w hwl x ks hM ma mc f) fun v S' ⟨S2, h1, h2⟩ => ⟨S2, h1, h2⟩
end Go.Proofs.YtopmnmigpbdddaaGreatDoor

/- Part of the proofs over this seat: see the text that holds the theorem. Conditions: each theorem bears its own. -/
namespace Go.Tab
open Go Go.HL

def pIdx (t : List UInt8) (j : Nat) : List Nat := (List.range j).filter fun i => decide (at0 t i ≠ UInt8.ofNat i)
def pF (t : List UInt8) (j : Nat) : List UInt8 := (pIdx t j).map UInt8.ofNat
def pT (t : List UInt8) (j : Nat) : List UInt8 := (pIdx t j).map (at0 t)
end Go.Tab

/- Part of the proofs over this seat: see the text that holds the theorem. Conditions: each theorem bears its own. -/
namespace Go.Tab
open Go Go.HL

def wideF (xs : List UInt8) (i : Nat) : UInt8 := if i < xs.length then at0 xs i else UInt8.ofNat (279 + 7 * i + 3)
def wide (xs : List UInt8) : List UInt8 := (List.range (xs.length + 64)).map (wideF xs)
attribute [irreducible] wide wideF
end Go.Tab

/- Part of the proofs over this seat: see the text that holds the theorem. Conditions: each theorem bears its own. -/
namespace Go.Tab
open Go Go.HL

structure Mk where
  b : UInt8
  p : Bool
  deriving DecidableEq
def Em (m : Mk) : List Value := [.int .u8 m.b.toNat, .bool m.p]
instance : Enc Em 2 := ⟨fun _ => rfl, fun _ v h => by
  simp only [Em, List.mem_cons, List.not_mem_nil, or_false] at h
  rcases h with rfl | rfl <;> rfl⟩
def mk0 (ms : List Mk) (i : Nat) : Mk := ms.getD i ⟨0, false⟩
def wmF (xs : List Mk) (i : Nat) : Mk := if i < xs.length then mk0 xs i else ⟨UInt8.ofNat (279 + 7 * i + 3), true⟩
def wm (xs : List Mk) : List Mk := (List.range (xs.length + 64)).map (wmF xs)
def stepM (s : List UInt8 × Bool) (m : Mk) : Option (List UInt8 × Bool) :=
  if s.2 then
    if m.p then none else if m.b = 92 then some (s.1 ++ [92], false) else if m.b = 110 then some (s.1 ++ [10], false) else none
  else if m.p = false ∧ m.b = 92 then some (s.1, true) else some (s.1 ++ [m.b], false)
def runM (ms : List Mk) : Nat → Option (List UInt8 × Bool)
  | 0 => some ([], false)
  | j + 1 => (runM ms j).bind fun s => stepM s (mk0 ms j)
def rowM (ms : List Mk) : Option (List UInt8) := (runM ms ms.length).bind fun s => if s.2 then none else some s.1
section
variable {acc : List UInt8} {m : Mk}
end
def parseR (l m : List Mk) : Option (List UInt8) := (rowM l).bind fun f => (rowM m).bind fun t => newR f t
attribute [irreducible] wm wmF mk0
end Go.Tab
namespace Go.Tab
open Go Go.HL
end Go.Tab

/- Part of the proofs over this seat: see the text that holds the theorem. Conditions: each theorem bears its own. -/
namespace Go.HL.Kl
open Go Go.HL
end Go.HL.Kl

/- Part of the proofs over this seat: see the text that holds the theorem. Conditions: each theorem bears its own. -/
namespace Go.HL.Kl
open Go Go.HL
def Er (r : Nat × Nat) : List Value := [.int .u8 r.1, .int .u8 r.2]
instance : Enc Er 2 := ⟨fun _ => rfl, fun _ v hv => by simp [Er] at hv; rcases hv with rfl | rfl <;> rfl⟩
def alike (l : List Cl) (x y : Nat) : Bool := l.all fun c => c.getLsbD x == c.getLsbD y
end Go.HL.Kl

/- Part of the proofs over this seat: see the text that holds the theorem. Conditions: each theorem bears its own. -/
namespace Go.HL.Kl
open Go Go.HL
def tabV : List Value := Lib.deBruijn64tab.map fun n : Nat => Value.int .u8 n
def Tb (S : Hp) (w : World) : Prop := RdP w 0 0 tabV ∧ 0 ∉ keys S
def least (c : Cl) : Nat := (mems c).headD 256
end Go.HL.Kl

/- Part of the proofs over this seat: see the text that holds the theorem. Conditions: each theorem bears its own. -/
namespace Go.HL.Kl
open Go Go.HL
def lastR (l : List (Nat × Nat)) : Nat × Nat := l.getD (l.length - 1) (0, 0)
def stepB (l : List (Nat × Nat)) (b : Nat) : List (Nat × Nat) := if 0 < l.length ∧ (lastR l).2 + 1 = b then l.set (l.length - 1) ((lastR l).1, b) else l ++ [(b, b)]
def runsB (p : List Nat) : List (Nat × Nat) := p.foldl stepB []
def runs (c : Cl) : List (Nat × Nat) := runsB (mems c)
end Go.HL.Kl

/- Part of the proofs over this seat: see the text that holds the theorem. Conditions: each theorem bears its own. -/
namespace Go.HL.Kl
open Go Go.HL

/-! atoms -/
def ref1 (c a : Cl) : List Cl := if a &&& c = 0#256 ∨ a &&& ~~~c = 0#256 then [a] else [a &&& c, a &&& ~~~c]
def refine (out : List Cl) (c : Cl) : List Cl := out.flatMap (ref1 c)
def parts (l : List Cl) : List Cl := l.foldl refine [rng 0 255]
structure Dj (l : List Cl) : Prop where
  ne : ∀ a ∈ l, a ≠ 0#256
  ap : l.Pairwise (fun a b => a &&& b = 0#256)
def clsTo (l : List Cl) (x : Nat) : Nat → Cl
  | 0 => 0
  | i + 1 => if alike l x i then clsTo l x i ||| bit i else clsTo l x i
def cls (l : List Cl) (x : Nat) : Cl := clsTo l x 256
structure PI (l ps : List Cl) : Prop where
  dj : Dj ps
  eq : ∀ a ∈ ps, ∀ x, a.getLsbD x = true → a = cls l x
  all : ∀ x, x < 256 → ∃ a ∈ ps, a.getLsbD x = true
def swap (l : List Cl) (k : Nat) : List Cl := (l.set (k + 1) (l.getD k 0)).set k (l.getD (k + 1) 0)
def sink (l : List Cl) : Nat → List Cl
  | 0 => l
  | k + 1 => if least (l.getD (k + 1) 0) < least (l.getD k 0) then sink (swap l k) k else l
def sortTo (l : List Cl) : Nat → List Cl
  | 0 => l
  | i + 1 => sink (sortTo l i) i
def atoms (l : List Cl) : List Cl := sortTo (parts l) (parts l).length
def isFirst (l : List Cl) (x : Nat) (i : Nat) : Bool := (List.range i).all fun y => !alike l x y || decide (x ≤ y)
def rAtomsTo (l : List Cl) (i : Nat) : List Cl := ((List.range i).filter (isFirst l · 256)).map (cls l)
def rAtoms (l : List Cl) : List Cl := rAtomsTo l 256
end Go.HL.Kl

/- Part of the proofs over this seat: see the text that holds the theorem. Conditions: each theorem bears its own. -/
namespace Go.HL
open Go Go.Tab
section
variable {P : Program} {κ : Cx} {L : HL.Loc} {H : Hp} {ty t t' : TypeId} {x y : Operand}
theorem s_indexStr {s : ByteArray} {k : IntKind} {j : Nat} [TU P t .string] (hj : j < s.data.toList.length) (hx : ev L x = some (.string s)) (hy : ev L y = some (.int k j)) :
    Step P κ (.index t x y) ty L H (.int .u8 (s.data.toList[j]).toNat) :=
  ⟨fun ρ w d pos af g hρ _ => by
    have hs : j < s.size := by simpa using hj
    have h1 : s[j]? = some (s.data.toList[j]) := by
      rw [getElem?_pos s j hs]
      rfl
    have h0 : (0 : Int) ≤ (j : Int) := by omega
    simp [execOp, hρ _ _ hx, hρ _ _ hy, Instr.index, asIntOf, run_u, h1]⟩
end
end Go.HL

/- A deferred call that asks recover first while its caller returns: it is told nil. Conditions: none. -/
namespace Go.HL
open Go
structure FnR (P : Program) (f : FuncId) (args : List Value) (pre : World → Prop) (S : Hp) (post : Value → Hp → Prop) : Prop where
  enters : Enters P f
  calls : ∀ w, pre w → Has w S → CallsD P f args.toArray .returning w (fun e u' w' => u' = .returning ∧ Post w (keys S) post e w')

section
variable {P : Program} {a : Act} {w : World}
theorem wpS_region_recover {Q : Exit → Act → List Frame → World → Prop} {Q0 : Pst} {id : Nat} {d : Nat} {ty : TypeId} {pos : String} {af : Array Edge} {rest : List Oper} {c₀ : Frame} {cs : List Frame} (hc : c₀.mode = .returning)
    (hQ : ∀ e a' w', Q0 e a' w' → Q e a' (c₀ :: cs) w')
    (h : wpListIn Fence.wide 0 P (⟨some d, .call ⟨.builtin .recover, #[], #[]⟩, ty, pos, af, none⟩ :: rest).toArray Q0 rest (a.put (some d) .nilIface) w) :
    (Code.region id (⟨some d, .call ⟨.builtin .recover, #[], #[]⟩, ty, pos, af, none⟩ :: rest).toArray false).wpS P Q a (c₀ :: cs) w := by
  intro b k hb hro
  generalize hops : (⟨some d, .call ⟨.builtin .recover, #[], #[]⟩, ty, pos, af, none⟩ :: rest).toArray = ops at h ⊢
  have hsz : ops.size = rest.length + 1 := by subst hops; simp
  have h0 : ops[0]? = some ⟨some d, .call ⟨.builtin .recover, #[], #[]⟩, ty, pos, af, none⟩ := by subst hops; simp
  have hj : ∀ j, rest[j]? = ops[1 + j]? := fun j => by subst hops; simp [Nat.add_comm 1 j]
  obtain ⟨e, a', w', hq, harr⟩ := wp_opsIn (List.range' 1 rest.length) _ _ (by rw [wpOpsIn_eq_wpListIn rest 1 hj]; exact h) b k (c₀ :: cs) hro trivial (room_wide _)
  have harr := (arrivesIn_iff (b := b) (fun _ _ => stepsIn_wide) hro).1 harr
  rw [Frame.atR_of_none hro] at harr
  refine ⟨e, a', c₀ :: cs, w', hQ _ _ _ hq, .of_steps (.one step_region) (.of_steps (.one (step_lone_go ?_)) harr)⟩
  have hr : (execOp a.eval ⟨some d, .call ⟨.builtin .recover, #[], #[]⟩, ty, pos, af, none⟩).run P w = .ok .recover w := by
    simp [execOp, resolve, invoke, builtin]
  have hrng : List.range ops.size = 0 :: List.range' 1 rest.length := by rw [hsz, List.range_eq_range', List.range'_succ]
  rw [hrng]
  have hg := stepG_op (P := P) (b := b) (a := a) (k := k) (cs := c₀ :: cs) (w := w) (rest := List.range' 1 rest.length) h0 (by simp [Region.wanted])
  have hk : (b.at a (.inRegion ops (0 :: List.range' 1 rest.length) :: k)).kind = .deferred := hb
  have htr := tryRecover_deferred hk (c₀ :: cs)
  have hrec : recoverD (c₀ :: cs) = none := by simp [recoverD, hc]
  have hfin : (b.at a (.inRegion ops (0 :: List.range' 1 rest.length) :: k)).finish .nilIface = b.at (a.put (some d) .nilIface) (.inRegion ops (List.range' 1 rest.length) :: k) := by
    rw [Frame.finish_at, h0]; rfl
  rw [hg, ← hfin]
  simp only [Frame.at] at htr ⊢
  simp [stepG.apply, hr, htr, hrec]
end
section
variable {P : Program} {w : World} {L : Loc} {H : Hp}
theorem fnR_of {f : FuncId} {fn : Func} {id d : Nat} {ty : TypeId} {pos : String} {af : Array Edge} {rest : List Oper} {y : Code} {args : List Value} {pre : World → Prop} {S : Hp} {post : Value → Hp → Prop} (hf : P.funcs[f]? = some fn)
    (hb : fn.body = some (.seq (.region id (⟨some d, .call ⟨.builtin .recover, #[], #[]⟩, ty, pos, af, none⟩ :: rest).toArray false) y)) (hn : (fn.name == "runtime.NumGoroutine") = false)
    (hs : Nat.ble args.length fn.ntmps = true) (hd : Nat.blt d fn.ntmps = true)
    (h : ∀ w, pre w → ∀ K : Act → World → Prop, (∀ L H, C P ⟨fn.ntmps, [], w, keys S⟩ (bodyPost P fn (Post w (keys S) post)) y L H → X ⟨fn.ntmps, [], w, keys S⟩ K L H) →
      O P ⟨fn.ntmps, [], w, keys S⟩ (⟨some d, .call ⟨.builtin .recover, #[], #[]⟩, ty, pos, af, none⟩ :: rest).toArray (Exit.then K (bodyPost P fn (Post w (keys S) post))) rest ((d, .nilIface) :: argL 0 args) S) : FnR P f args pre S post := by
  refine ⟨enters_of hf hn (by simp [hb]), fun w hp hS => ?_⟩
  refine callsD_of_wpS hf hb fun c₀ cs hu => ?_
  have hfr := fr_args (args := args) (n := fn.ntmps) (by simpa using hs)
  have hO := (h w hp (y.wp P (bodyPost P fn (Post w (keys S) post))) (fun L H hC => ⟨fun a w' ok => hC.wp ok⟩)).out none _ w (.inl rfl) ⟨hfr.put hd .nilIface, St.start hS⟩
  have hmono : ∀ (e : Exit) (a' : Act) (w' : World), bodyPost P fn (Post w (keys S) post) e a' w' → bodyPostS P fn c₀ cs (fun e u' w' => u' = .returning ∧ Post w (keys S) post e w') e a' (c₀ :: cs) w' := by
    intro e a' w' hq
    have hself : c₀ :: cs = { c₀ with mode := .returning } :: cs := by rw [← hu]
    cases e with
    | normal => obtain ⟨h1, v, h2, h3⟩ := hq; exact ⟨h1, .returning, hself, v, h2, rfl, h3⟩
    | ret => obtain ⟨h1, v, h2, h3⟩ := hq; exact ⟨h1, .returning, hself, v, h2, rfl, h3⟩
    | panic ch => obtain ⟨h1, h2⟩ := hq; exact ⟨h1, .returning, hself, rfl, h2⟩
    | outgrown => exact ⟨.returning, rfl, hq⟩
    | exit id => exact hq.elim
    | goto l => exact hq.elim
  refine wpS_seq (wpS_region_recover hu (Q0 := Exit.then (y.wp P (bodyPost P fn (Post w (keys S) post))) (bodyPost P fn (Post w (keys S) post))) (fun e a' w' hq => ?_) hO)
  cases e with
  | normal => exact wpS_of_wp (wp_mono hq hmono)
  | ret => exact hmono .ret a' w' hq
  | panic ch => exact hmono (.panic ch) a' w' hq
  | outgrown => exact hmono .outgrown a' w' hq
  | exit id => exact hq.elim
  | goto l => exact hq.elim
theorem leave1R {fn : Func} {tm : Array Value} {f : FuncId} {us cs : List Value} {w0 w : World} {M : List Nat} {pre : World → Prop} {S R : Hp} {post1 : Value → Hp → Prop} {post : Value → Hp → Prop} {ds : List Deferred}
    (hc : FnR P f (us ++ cs) pre S post1) (hpk : Pick H S R) (hp : ∀ w, St w0 w M H → pre w) (st : St w0 w M H)
    (h : ∀ v' S' w', post1 v' S' → St w0 w' M (S' ++ R) → Leaves P fn tm (Post w0 M post) ds .returning w') : Leaves P fn tm (Post w0 M post) (⟨.fn (.func f) cs.toArray, us.toArray⟩ :: ds) .returning w := by
  have st' := st.perm hpk.perm
  refine leaves_cons (f := f) (args := (us ++ cs).toArray) (by simp) ?_ ?_
  · have := hc.enters (us ++ cs).toArray w
    simpa [invoke] using this
  · refine (hc.calls w (hp w st) st'.has_of).mono fun e u' w' hx => ?_
    obtain ⟨rfl, hpost⟩ := hx
    obtain ⟨v, S', rfl, hq, hst⟩ := hpost.out
    exact h v S' w' hq (st'.comp hst)
theorem x_retR {fn : Func} {w0 : World} {M : List Nat} {n : Nat} {post : Value → Hp → Prop} {f : FuncId} {us cs : List Value} {pre : World → Prop} {S R : Hp} {post1 : Value → Hp → Prop} {rs : List ResultVar}
    (hc : FnR P f (us ++ cs) pre S post1) (hr : fn.results = rs.toArray) (hpk : Pick H S R) (hp' : ∀ w, St w0 w M H → pre w)
    (hp : ∀ v' S', post1 v' S' → ∃ H' vs, HSub (S' ++ R) H' ∧ Rs P ⟨n, [⟨.fn (.func f) cs.toArray, us.toArray⟩], w0, M⟩ L H' rs vs ∧ post (resV vs) H') :
    X ⟨n, [⟨.fn (.func f) cs.toArray, us.toArray⟩], w0, M⟩ (bodyPostD P fn (Post w0 M post) .ret) L H := by
  refine ⟨fun a w ok => ?_⟩
  simp only [bodyPostD]
  rw [ok.fr.defers]
  refine leave1R hc hpk hp' ok.st fun v' S' w' hq st => ?_
  obtain ⟨H', vs, hs, hR, hq'⟩ := hp v' S' hq
  exact leave0 (v := resV vs) (run_results hr hR ok.fr (st.sub hs)) hq' (st.sub hs)
theorem c_label {κ : Cx} {Q : Pst} {l : Nat} (h : X κ (Q .normal) L H) : C P κ Q (.label l) L H := ⟨fun _ a w _ ok => wpIn_label (h.out a w ok)⟩
end
end Go.HL
