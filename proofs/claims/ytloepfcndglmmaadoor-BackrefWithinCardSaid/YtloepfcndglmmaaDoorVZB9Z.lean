/- Part of the proofs over this seat: see the text that holds the theorem. Conditions: each theorem bears its own. -/
import Derived.Test.YtloepfcndglmmaaDoorVZB8Z
import Derived.Test.YtloepfcndglmmaaDoorBM1Z
import Derived.Test.YtloepfcndglmmaaDoorMT20Z
import Derived.Test.YtloepfcndglmmaaDoorBS6Z
namespace Go.Proofs.YtloepfcndglmmaaDoor
open Go Go.HL Go.Proofs Go.HL.Kl Go.HL.Kl.Mc Go.HL.Kl.Mc.AskE
theorem rep_set {α : Type} {i m : Nat} {a b : α} : (List.replicate i a ++ List.replicate (m + 1) b).set i a = List.replicate (i + 1) a ++ List.replicate m b := by
  rw [List.set_append, if_neg (by simp), List.length_replicate, Nat.sub_self, List.replicate_succ, List.set_cons_zero, List.replicate_succ', List.append_assoc]; rfl
/-- the groups referred to, so far -/
structure RefI (re : List Nd) (q : Nat) (R : List Nat) (es : List Bool) : Prop where
  iff : ∀ n, n ∈ R ↔ es[n]? = some true
  got : ∀ k x, k < q → re[k]? = some x → x.op = 8 → x.n.toNat ∈ R
  len : R.length ≤ q
theorem RefI.nil {re : List Nd} {n : Nat} : RefI re 0 [] (List.replicate n false) := ⟨fun m => ⟨fun h => (by cases h), fun h => by have := List.mem_of_getElem? h; rw [List.mem_replicate] at this; cases this.2⟩, fun _ _ h => absurd h (Nat.not_lt_zero _), Nat.le_refl _⟩
theorem RefI.yes {re : List Nd} {q : Nat} {R : List Nat} {es : List Bool} (h : RefI re q R es) {x : Nd} (hx : re[q]? = some x) (_o8 : x.op = 8) (hn : x.n.toNat < es.length) : RefI re (q + 1) (R ++ [x.n.toNat]) (es.set x.n.toNat true) :=
  ⟨fun m => by
    by_cases e : m = x.n.toNat
    · subst e; simp [hn]
    · rw [List.getElem?_set_ne (Ne.symm e), ← h.iff m]; simp [e], fun k y hk hy h8 => by
    by_cases e : k = q
    · subst e; rw [hx] at hy; cases hy; simp
    · exact List.mem_append_left _ (h.got k y (by omega) hy h8), by rw [List.length_append, List.length_singleton]; have := h.len; omega⟩
theorem RefI.old {re : List Nd} {q : Nat} {R : List Nat} {es : List Bool} (h : RefI re q R es) {x : Nd} (hx : re[q]? = some x) {z : Bool} (hz : es[x.n.toNat]? = some z) (hf : ¬ z = false) : RefI re (q + 1) R es :=
  ⟨h.iff, fun k y hk hy h8 => by
    by_cases e : k = q
    · subst e; rw [hx] at hy; cases hy; exact (h.iff _).2 (by rw [hz]; simpa using hf)
    · exact h.got k y (by omega) hy h8, by have := h.len; omega⟩
theorem RefI.no {re : List Nd} {q : Nat} {R : List Nat} {es : List Bool} (h : RefI re q R es) {x : Nd} (hx : re[q]? = some x) (h8 : ¬ x.op = 8) : RefI re (q + 1) R es :=
  ⟨h.iff, fun k y hk hy h8' => by
    by_cases e : k = q
    · subst e; rw [hx] at hy; cases hy; exact absurd h8' h8
    · exact h.got k y (by omega) hy h8', by have := h.len; omega⟩
theorem RefI.all {re : List Nd} {R : List Nat} {es : List Bool} (h : RefI re re.length R es) {x : Nd} (hx : x ∈ re) (h8 : x.op = 8) : x.n.toNat ∈ R := by
  obtain ⟨k, hk⟩ := List.mem_iff_getElem?.1 hx
  exact h.got k x (List.getElem?_eq_some_iff.1 hk).1 hk h8
theorem RefI.le {re : List Nd} {q N : Nat} {R : List Nat} {es : List Bool} (h : RefI re q R es) (hl : es.length = N + 1) : ∀ r ∈ R, r ≤ N := fun r hr => by
  have := (List.getElem?_eq_some_iff.1 ((h.iff r).1 hr)).1
  omega
structure MsE where
  (bS : Nat) (ra : Option Addr) (rc : Nat) (re : List Nd) (ba : Option Addr) (bc : Nat) (v1 v3 v4 v5 v6 v7 v8 v9 v10 : Value)
def MsE.Meas (K : MsE) (L : Nat) : Prop := ∀ (x : Nd) (ks : F) (at_ e : Nat) (bl : List Nat) (Sb : Hp), ks.size < L → Part K.re (.nd x ks .nil) at_ e → bl.length = K.re.length → OwnS Eix 1 3 (.slice K.ba K.re.length K.bc) bl Sb →
  HL.Fn Tryd.prog 82 [pt K.bS, .int .i64 at_] (fun W => Rd En W (.slice K.ra K.re.length K.rc) K.re ∧ Apart (keys ((K.bS, .cells [.slice K.ra K.re.length K.rc, K.v1, .slice K.ba K.re.length K.bc, K.v3, K.v4, K.v5, K.v6, K.v7, K.v8, K.v9, K.v10].toArray 103 (0, 0)) :: Sb)) (.slice K.ra K.re.length K.rc)) ((K.bS, .cells [.slice K.ra K.re.length K.rc, K.v1, .slice K.ba K.re.length K.bc, K.v3, K.v4, K.v5, K.v6, K.v7, K.v8, K.v9, K.v10].toArray 103 (0, 0)) :: Sb)
    (fun v S' => ∃ bl' Sb', v = .int .i64 (e : Nat) ∧ S' = (K.bS, .cells [.slice K.ra K.re.length K.rc, K.v1, .slice K.ba K.re.length K.bc, K.v3, K.v4, K.v5, K.v6, K.v7, K.v8, K.v9, K.v10].toArray 103 (0, 0)) :: Sb' ∧ OwnS Eix 1 3 (.slice K.ba K.re.length K.bc) bl' Sb' ∧ bl'.length = K.re.length ∧ (∀ k, k < at_ → bl'[k]? = bl[k]?) ∧ BehU K.re bl' at_ e)
set_option maxHeartbeats 2000000 in
theorem measure_step (K : MsE) (hrl : K.re.length ≤ 1000000) (L : Nat) (ih : K.Meas L) (x : Nd) (ks : F) (at_ e : Nat) (bl : List Nat) (Sb : Hp) (hks : ks.size ≤ L) (hp : Part K.re (.nd x ks .nil) at_ e) (hbl : bl.length = K.re.length) (hO : OwnS Eix 1 3 (.slice K.ba K.re.length K.bc) bl Sb) : HL.Fn Tryd.prog 82 [pt K.bS, .int .i64 at_] (fun W => Rd En W (.slice K.ra K.re.length K.rc) K.re ∧ Apart (keys ((K.bS, .cells [.slice K.ra K.re.length K.rc, K.v1, .slice K.ba K.re.length K.bc, K.v3, K.v4, K.v5, K.v6, K.v7, K.v8, K.v9, K.v10].toArray 103 (0, 0)) :: Sb)) (.slice K.ra K.re.length K.rc)) ((K.bS, .cells [.slice K.ra K.re.length K.rc, K.v1, .slice K.ba K.re.length K.bc, K.v3, K.v4, K.v5, K.v6, K.v7, K.v8, K.v9, K.v10].toArray 103 (0, 0)) :: Sb) (fun v S' => ∃ bl' Sb', v = .int .i64 (e : Nat) ∧ S' = (K.bS, .cells [.slice K.ra K.re.length K.rc, K.v1, .slice K.ba K.re.length K.bc, K.v3, K.v4, K.v5, K.v6, K.v7, K.v8, K.v9, K.v10].toArray 103 (0, 0)) :: Sb' ∧ OwnS Eix 1 3 (.slice K.ba K.re.length K.bc) bl' Sb' ∧ bl'.length = K.re.length ∧ (∀ k, k < at_ → bl'[k]? = bl[k]?) ∧ BehU K.re bl' at_ e) := by
  refine fn_of Tryd.func82 rfl rfl rfl fun w0 hw => ?_
  have hsl := hw.1.sl
  have hx := hp.head.1
  have hel := hp.le
  have he := hp.len
  simp only [F.size, Nat.add_zero] at he
  have hkn := hp.wf.2.1
  have hksn := ks.num_le
  have hlt := (List.getElem?_eq_some_iff.1 hx).1
  refine c_seq fun _ hK1 => ?_
  refine c_region ?_
  refine o_step rfl (s_assign rfl) ?_
  refine o_nil ?_
  refine x_then (hK1 _ _ ?_)
  refine c_seq fun _ hK2 => ?_
  refine c_region ?_
  refine o_step rfl (s_move rfl) ?_
  refine o_step rfl (s_add rfl rfl (by omega)) ?_
  refine o_step rfl (s_assign rfl) ?_
  refine o_nil ?_
  refine x_then (hK2 _ _ ?_)
  refine c_seq fun _ hK3 => ?_
  refine c_seq fun _ hK4 => ?_
  refine c_region ?_
  refine o_step rfl (s_move rfl) ?_
  refine o_step rfl (s_nil rfl) ?_
  refine o_step rfl (s_field rfl rfl (by decide)) ?_
  refine o_step rfl (s_ld rfl (.own meA rfl)) ?_
  refine o_step rfl (s_move rfl) ?_
  refine o_step rfl (s_idx rfl rfl hsl (by omega)) ?_
  refine o_step rfl (s_field rfl rfl (by decide)) ?_
  refine o_step rfl (s_ld rfl ((RdK.old hw.1 hw.2).ld at_ 8 hx rfl (by decide) (by omega))) ?_
  refine o_step rfl (s_move rfl) ?_
  refine o_nil ?_
  refine x_then (hK4 _ _ ?_)
  refine c_block ?_
  refine c_loop5 (fun (m : Nat) (kid : Nat) (g : F) (bl2 : List Nat) (Sb2 : Hp) => Part K.re g kid e ∧ (m : Int) + g.num = x.kids ∧ g.size ≤ ks.size ∧ OwnS Eix 1 3 (.slice K.ba K.re.length K.bc) bl2 Sb2 ∧ bl2.length = K.re.length ∧ (∀ k, k < at_ → bl2[k]? = bl[k]?) ∧ BehU K.re bl2 (at_ + 1) kid ∧ at_ + 1 ≤ kid) (fun (m : Nat) (kid : Nat) (g : F) (bl2 : List Nat) (Sb2 : Hp) => [(16, .int .i64 m), (5, .int .i64 kid)]) [(0, _), (1, _), (4, _), (15, _)] (fun (m : Nat) (kid : Nat) (g : F) (bl2 : List Nat) (Sb2 : Hp) => (K.bS, .cells [.slice K.ra K.re.length K.rc, K.v1, .slice K.ba K.re.length K.bc, K.v3, K.v4, K.v5, K.v6, K.v7, K.v8, K.v9, K.v10].toArray 103 (0, 0)) :: Sb2) (fun (m : Nat) (kid : Nat) (g : F) (bl2 : List Nat) (Sb2 : Hp) => g.num) 0 (at_ + 1) ks bl Sb ⟨by have := hp.head.2.1; rw [show at_ + 1 + ks.size = e by omega] at this; exact this, by omega, Nat.le_refl _, hO, hbl, fun _ _ => rfl, .nil, Nat.le_refl _⟩ sbA sbA hzB ?_
  rintro m kid g bl2 Sb2 ⟨hpg, hmg, hgs, hO2, hbl2, hfr, hB, hak⟩
  have hgn := g.num_le
  have hgl := hpg.len
  refine c_seq fun _ hK5 => ?_
  refine c_region ?_
  by_cases hmk : (m : Int) < x.kids
  ·
   obtain ⟨y, js, r, rfl⟩ : ∃ y js r, g = F.nd y js r := by cases g with | nil => simp only [F.num] at hmg; omega | nd y a c => exact ⟨y, a, c, rfl⟩
   simp only [F.num] at hmg
   simp only [F.size] at hgs hgl
   refine o_step rfl (step_cast (v' := .bool true) (s_lss rfl rfl) (by rw [decide_eq_true (by omega)])) ?_
   refine o_nil ?_
   refine x_then (hK5 _ _ ?_)
   refine c_seq fun _ hK6 => ?_
   refine c_true rfl ?_
   refine c_skip ?_
   refine x_then (hK6 _ _ ?_)
   refine c_seq fun _ hK7 => ?_
   refine c_block ?_
   refine c_region ?_
   refine o_step rfl (s_move rfl) ?_
   refine o_step rfl (s_move rfl) ?_
   refine o_call (ih y js kid (kid + 1 + js.size) bl2 Sb2 (by omega) hpg.one hbl2 hO2) rfl rfl rfl pkA (fun w st => ⟨(RdK.old hw.1 hw.2).out w st, st.apart_M (hin_cons meA hiA) hw.1 hw.2 (by decide)⟩) (fun v20 S20 ⟨bl', Sb', hv20, hS20, hO', hbl', hfr', hB'⟩ => ?_)
   subst hv20
   subst hS20
   refine o_step rfl (s_assign rfl) ?_
   refine o_nil ?_
   refine x_block ?_
   refine x_then (hK7 _ _ ?_)
   refine c_region ?_
   refine o_step rfl (s_add rfl rfl (by omega)) ?_
   refine o_step rfl (s_move rfl) ?_
   refine o_nil ?_
   exact x_then (x_inv (m + 1, kid + 1 + js.size, r, bl', Sb') ⟨hpg.head.2.2, by dsimp only; omega, by dsimp only; omega, hO', hbl', fun k hk => (hfr' k (by omega)).trans (hfr k hk), hB.cat hfr' hB', by dsimp only; omega⟩ (by simp only [F.num]; omega) sbA hzB)
  ·
   obtain rfl : g = F.nil := F.num_nil (by omega)
   obtain rfl : kid = e := by simp only [F.size] at hgl; omega
   have hbs := hO2.sl
   refine o_step rfl (step_cast (v' := .bool false) (s_lss rfl rfl) (by rw [decide_eq_false (by omega)])) ?_
   refine o_nil ?_
   refine x_then (hK5 _ _ ?_)
   refine c_seq fun _ hK8 => ?_
   refine c_false rfl ?_
   refine c_exit ?_
   refine x_then_exit ?_
   refine x_then_exit ?_
   refine x_block_exit ?_
   refine x_then (hK3 _ _ ?_)
   refine c_seq fun _ hK9 => ?_
   refine c_region ?_
   refine o_step rfl (s_move rfl) ?_
   refine o_step rfl (s_nil rfl) ?_
   refine o_step rfl (s_field rfl rfl (by decide)) ?_
   refine o_step rfl (s_ld rfl (.own meA rfl)) ?_
   refine o_step rfl (s_move rfl) ?_
   refine o_step rfl (s_move rfl) ?_
   refine o_step rfl (s_idx rfl rfl (hbl2 ▸ hbs) (by omega)) ?_
   refine o_stS1 at_ kid hO2 pkA rfl rfl rfl (by omega) (by omega) fun S' hS' => ?_
   refine o_nil ?_
   refine x_then (hK9 _ _ ?_)
   refine c_seq fun _ hK10 => ?_
   refine c_region ?_
   refine o_step rfl (s_move rfl) ?_
   refine o_step rfl (s_assign rfl) ?_
   refine o_nil ?_
   refine x_then (hK10 _ _ ?_)
   refine c_ret ?_
   refine ?_
   refine x_sub (Sub.refl _) (H' := (K.bS, .cells [.slice K.ra K.re.length K.rc, K.v1, .slice K.ba K.re.length K.bc, K.v3, K.v4, K.v5, K.v6, K.v7, K.v8, K.v9, K.v10].toArray 103 (0, 0)) :: S') hzB ?_
   exact x_ret rfl (.tmp rfl (.nil)) (⟨bl2.set at_ kid, S', rfl, rfl, hS', by rw [List.length_set]; exact hbl2, fun k hk => by rw [List.getElem?_set_ne (by omega)]; exact hfr k hk, hB.top hp (by omega) (by omega)⟩)
theorem meas_all (K : MsE) (hrl : K.re.length ≤ 1000000) : ∀ L, K.Meas L
  | 0 => fun _ _ _ _ _ _ h => absurd h (Nat.not_lt_zero _)
  | L + 1 => fun x ks at_ e bl Sb hL hp hbl hO => measure_step K hrl L (meas_all K hrl L) x ks at_ e bl Sb (by omega) hp hbl hO
set_option maxHeartbeats 4000000 in
theorem startK_fn (ra : Option Addr) (rc : Nat) (re : List Nd) (hre : ∀ x ∈ re, -128 ≤ x.op ∧ x.op < 128) (ta : Option Addr) (tc : Nat) (w : List UInt8) (hrl : re.length ≤ 1000000) (hwl : w.length ≤ 1000000) (hsb : shapedB re = true) (f : Nat) : HL.Fn Tryd.prog 46 [.slice ra re.length rc, .slice ta w.length tc, .int .i64 (f : Nat)] (fun W => Rd En W (.slice ra re.length rc) re ∧ RdP W 0 0 (Esp noS)) [] (fun v S' => ∃ (K : BkE) (s : BkS) (Sb SX : Hp), v = pt K.b ∧ S' = ((K.b, .cells [.slice K.ra K.re.length K.rc, .slice K.ta K.w.length K.tc, .slice K.ba K.bl.length K.bc, .slice K.xa K.R.length K.xc, .slice s.fa (zeroF :: s.S.fs).length s.fc, .map (some K.bn), .map (some K.bt), .map (some K.bf), .slice K.sa (K.N + 1) K.sc, .int .i64 (s.S.fuel : Nat), .bool false].toArray 103 (0, 0)) :: (K.bn, mxO EkF s.en s.cn) :: (K.bt, mxO EkT s.et s.ct) :: (K.bf, mxO EkP s.ef s.cf) :: (s.Sf ++ s.Ss)) ++ (Sb ++ SX) ∧ (K.ra = ra ∧ K.rc = rc ∧ K.re = re ∧ K.ta = ta ∧ K.tc = tc ∧ K.w = w ∧ K.N = gcn re) ∧ OwnS Eix 1 3 (.slice K.ba K.bl.length K.bc) K.bl Sb ∧ OwnS Eix 1 3 (.slice K.xa K.R.length K.xc) K.R SX ∧ K.ok ∧ K.Rep s ∧ s.S = ⟨[], [], [], List.replicate (gcn re + 1) noS, f, 0⟩) := by
  refine fn_of Tryd.func46 rfl rfl rfl fun w0 hw => ?_
  have hsl := hw.1.sl
  obtain ⟨_, x0, ks0, hS⟩ := shapedB_iff.1 hsb
  have hroot : Part re (.nd x0 ks0 .nil) 0 re.length := hS.part
  have hgc : gcn re ≤ re.length := List.countP_le_length
  refine c_seq fun _ hK1 => ?_
  refine c_region ?_
  refine o_step rfl (s_assign rfl) ?_
  refine o_nil ?_
  refine x_then (hK1 _ _ ?_)
  refine c_seq fun _ hK2 => ?_
  refine c_region ?_
  refine o_step rfl (s_move rfl) ?_
  refine o_step rfl (s_move rfl) ?_
  refine o_step rfl (s_move rfl) ?_
  refine o_mmap2 (Ek := EkF) rfl fun b15 => ?_
  refine o_mmap2 (Ek := EkT) rfl fun b16 => ?_
  refine o_mmap2 (Ek := EkP) rfl fun b17 => ?_
  refine o_step rfl (s_build (cs := [_, _, _, _, _, _]) (vs := []) rfl rfl (.nil)) ?_
  refine o_bs (E := Efr) (xs := [zeroF]) (vs := [_]) rfl rfl rfl rfl rfl (by decide) (by decide) fun b19 S19 hS19 => ?_
  refine o_step rfl (s_build (cs := [_, _, _, _, _, _, _, _, _, _, _]) (vs := [_, _, _, _, _, _, _]) rfl rfl (.cons rfl rfl rfl rfl rfl (.cons rfl rfl rfl rfl rfl (.cons rfl rfl rfl rfl rfl (.cons rfl rfl rfl rfl rfl (.cons rfl rfl rfl rfl rfl (.cons rfl rfl rfl rfl rfl (.cons rfl rfl rfl rfl rfl (.nil))))))))) ?_
  refine o_box rfl rfl rfl fun b21 => ?_
  refine o_step rfl (s_assign rfl) ?_
  refine o_nil ?_
  refine x_then (hK2 _ _ ?_)
  refine c_seq fun _ hK3 => ?_
  refine c_region ?_
  refine o_step rfl (s_move rfl) ?_
  refine o_step rfl (s_move rfl) ?_
  refine o_step rfl (s_len rfl) ?_
  refine o_make (E := Eix) (zx := 0) (n := re.length) rfl rfl rfl (by omega) (by omega) rfl fun b25 S25 hS25 => ?_
  refine o_step rfl (s_nil rfl) ?_
  refine o_step rfl (s_field rfl rfl (by decide)) ?_
  refine o_store rfl rfl rfl upA ltA rfl ?_
  refine o_nil ?_
  refine x_then (hK3 _ _ ?_)
  refine c_seq fun _ hK4 => ?_
  refine c_region ?_
  refine o_step rfl (s_move rfl) ?_
  refine o_call (meas_all (⟨b21, ra, rc, re, some ⟨b25, 0, none⟩, re.length, .slice ta w.length tc, .slice none 0 0, .slice (some ⟨b19, 0, none⟩) 1 1, .map (some b15), .map (some b16), .map (some b17), .slice none 0 0, .int .i64 (f : Nat), .bool false⟩ : MsE) hrl (ks0.size + 1) x0 ks0 0 re.length _ S25 (Nat.lt_succ_self _) hroot List.length_replicate hS25) rfl rfl rfl ((Pick.takeC pkA pkA)) (fun w st => ⟨(RdK.old0 hw.1).out w st, st.apart_M (hin_cons meA hiA) hw.1 Apart.nil (by decide)⟩) (fun v29 S29 ⟨bl, Sb, hv29, hS29, hOb, hbl, _, hB⟩ => ?_)
  subst hv29
  subst hS29
  dsimp only at hOb hbl hB ⊢
  refine o_nil ?_
  refine x_then (hK4 _ _ ?_)
  refine c_seq fun _ hK5 => ?_
  refine c_region ?_
  refine o_step rfl (s_move rfl) ?_
  refine o_step rfl (s_move rfl) ?_
  refine o_callP (groups_fn ra rc re hre) rfl rfl rfl (fun w st => (RdK.old0 hw.1).out w st) (fun v32 hv32 => ?_)
  rw [if_pos hsb] at hv32
  subst hv32
  refine o_step rfl (step_cast (v' := .int .i64 ((gcn re + 1 : Nat) : Int)) (s_add rfl rfl (by omega)) (congrArg _ (by omega))) ?_
  refine o_make (E := Esp) (zx := ⟨0, 0⟩) (n := gcn re + 1) rfl rfl rfl (by omega) (by omega) rfl fun b34 S34 hS34 => ?_
  refine o_step rfl (s_nil rfl) ?_
  refine o_step rfl (s_field rfl rfl (by decide)) ?_
  refine o_store rfl rfl rfl upA ltA rfl ?_
  refine o_nil ?_
  refine x_then (hK5 _ _ ?_)
  refine c_seq fun _ hK6 => ?_
  refine c_region ?_
  refine o_step rfl (s_move rfl) ?_
  refine o_step rfl (s_nil rfl) ?_
  refine o_step rfl (s_field rfl rfl (by decide)) ?_
  refine o_step rfl (s_ld rfl (.own meA rfl)) ?_
  refine o_step rfl (s_len rfl) ?_
  refine o_make (E := Ebo) (zx := false) (n := gcn re + 1) rfl rfl rfl (by omega) (by omega) rfl fun b42 S42 hS42 => ?_
  refine o_step rfl (s_assign rfl) ?_
  refine o_nil ?_
  refine x_then (hK6 _ _ ?_)
  refine c_seq fun _ hK7 => ?_
  refine c_seq fun _ hK8 => ?_
  refine c_region ?_
  refine o_step rfl (s_move rfl) ?_
  refine o_step rfl (s_len rfl) ?_
  refine o_step rfl (s_move rfl) ?_
  refine o_nil ?_
  refine x_then (hK8 _ _ ?_)
  refine c_block ?_
  refine c_loop7 (fun (q : Nat) (es : List Bool) (xa : Option Addr) (xc : Nat) (R : List Nat) (SE : Hp) (SX : Hp) => q ≤ re.length ∧ es.length = gcn re + 1 ∧ OwnS Ebo 1 4 (.slice (some ⟨b42, 0, none⟩) (gcn re + 1) (gcn re + 1)) es SE ∧ OwnS Eix 1 3 (.slice xa R.length xc) R SX ∧ RefI re q R es) (fun (q : Nat) (es : List Bool) (xa : Option Addr) (xc : Nat) (R : List Nat) (SE : Hp) (SX : Hp) => [(45, .int .i64 q)]) [(6, _), (7, _), (8, _), (43, _), (44, _)] (fun (q : Nat) (es : List Bool) (xa : Option Addr) (xc : Nat) (R : List Nat) (SE : Hp) (SX : Hp) => (b21, .cells [.slice ra re.length rc, .slice ta w.length tc, .slice (some ⟨b25, 0, none⟩) re.length re.length, .slice xa R.length xc, .slice (some ⟨b19, 0, none⟩) 1 1, .map (some b15), .map (some b16), .map (some b17), .slice (some ⟨b34, 0, none⟩) (gcn re + 1) (gcn re + 1), .int .i64 (f : Nat), .bool false].toArray 103 (0, 0)) :: (b15, mxO EkF [] 0) :: (b16, mxO EkT [] 0) :: (b17, mxO EkP [] 0) :: (S19 ++ (S34 ++ (Sb ++ (SE ++ SX))))) (fun (q : Nat) (es : List Bool) (xa : Option Addr) (xc : Nat) (R : List Nat) (SE : Hp) (SX : Hp) => re.length - q) 0 (List.replicate (gcn re + 1) false) none 0 [] S42 [] ⟨Nat.zero_le _, List.length_replicate, hS42, .nil, .nil⟩ sbA sbA hzB ?_
  rintro q es xa xc R SE SX ⟨hq, hes, hE, hX, hRI⟩
  have hsE := hE.sl
  rw [hes] at hsE
  have hRq := hRI.len
  refine c_seq fun _ hK9 => ?_
  refine c_region ?_
  by_cases hql : (q : Int) < re.length
  ·
   obtain ⟨x, hx⟩ : ∃ x, re[q]? = some x := ⟨_, List.getElem?_eq_getElem (by omega)⟩
   have hxm := List.mem_of_getElem? hx
   refine o_step rfl (step_cast (v' := .bool true) (s_lss rfl rfl) (by rw [decide_eq_true (by omega)])) ?_
   refine o_nil ?_
   refine x_then (hK9 _ _ ?_)
   refine c_seq fun _ hK10 => ?_
   refine c_true rfl ?_
   refine c_skip ?_
   refine x_then (hK10 _ _ ?_)
   refine c_seq fun _ hK11 => ?_
   refine c_block ?_
   refine c_seq fun _ hK12 => ?_
   refine c_region ?_
   refine o_step rfl (s_idx rfl rfl hsl (by omega)) ?_
   refine o_step rfl (s_ldB rfl ((RdK.old0 hw.1).lds q hx rfl) (by rfl)) ?_
   refine o_alloc (l := En zN) (by rw [En_zero]; rfl) rfl fun b10 => ?_
   refine o_stW rfl rfl upA lnA lnA onA ?_
   refine o_nil ?_
   refine x_then (hK12 _ _ ?_)
   refine c_seq fun _ hK13 => ?_
   refine c_region ?_
   refine o_step rfl (s_field rfl rfl (by decide)) ?_
   refine o_step rfl (s_ld rfl (.own meA rfl)) ?_
   by_cases o8 : x.op = 8
   ·
    obtain ⟨hn1, hn2⟩ := ref_n hsb hxm o8
    obtain ⟨z, hez⟩ : ∃ z, es[x.n.toNat]? = some z := ⟨_, List.getElem?_eq_getElem (by omega)⟩
    refine o_step rfl (step_cast (v' := .bool true) (s_eql rfl rfl) (by rw [decide_eq_true o8])) ?_
    refine o_step rfl (s_move rfl) ?_
    refine o_yes rfl rfl ?_
    refine o_step rfl (s_move rfl) ?_
    refine o_yes rfl rfl ?_
    refine o_step rfl (s_field rfl rfl (by decide)) ?_
    refine o_yes rfl rfl ?_
    refine o_step rfl (s_ld rfl (.own meA rfl)) ?_
    refine o_yes rfl rfl ?_
    refine o_step rfl (s_idx rfl rfl hsE (by omega)) ?_
    refine o_yes rfl rfl ?_
    refine o_step rfl (s_ld rfl ((hE.rdk hiA).ld x.n.toNat 0 hez rfl (by decide) (by omega))) ?_
    refine o_yes rfl rfl ?_
    by_cases hz : z = false
    ·
     refine o_step rfl (step_cast (v' := .bool true) (s_not rfl) (by rw [hz]; rfl)) ?_
     refine o_step rfl (s_pick_t rfl rfl) ?_
     refine o_nil ?_
     refine x_then (hK13 _ _ ?_)
     refine c_true rfl ?_
     refine c_seq fun _ hK14 => ?_
     refine c_region ?_
     refine o_step rfl (s_move rfl) ?_
     refine o_step rfl (s_field rfl rfl (by decide)) ?_
     refine o_step rfl (s_ld rfl (.own meA rfl)) ?_
     refine o_step rfl (s_idx rfl rfl hsE (by omega)) ?_
     refine o_stS1 x.n.toNat true hE pkA rfl rfl rfl (by omega) (by omega) fun S64 hS64 => ?_
     refine o_nil ?_
     refine x_then (hK14 _ _ ?_)
     refine c_drawE ([(b21, .cells [.slice ra re.length rc, .slice ta w.length tc, .slice (some ⟨b25, 0, none⟩) re.length re.length, .slice xa R.length xc, .slice (some ⟨b19, 0, none⟩) 1 1, .map (some b15), .map (some b16), .map (some b17), .slice (some ⟨b34, 0, none⟩) (gcn re + 1) (gcn re + 1), .int .i64 (f : Nat), .bool false].toArray 103 (0, 0)), (b10, .cells (En x).toArray 80 (0, 0))]) (fun i => Nat.beq i 11) ?_
     refine e_pure 0 rfl (by kernel_rfl) (by kernel_rfl) (by kernel_rfl) rfl (s_move rfl) ?_
     refine e_pure 1 rfl (by kernel_rfl) (by kernel_rfl) (by kernel_rfl) rfl (s_move rfl) ?_
     refine e_pure 2 rfl (by kernel_rfl) (by kernel_rfl) (by kernel_rfl) rfl (s_nil rfl) ?_
     refine e_pure 3 rfl (by kernel_rfl) (by kernel_rfl) (by kernel_rfl) rfl (s_field rfl rfl (by decide)) ?_
     refine e_take 4 rfl (by kernel_rfl) (by kernel_rfl) (by kernel_rfl) (by kernel_rfl) (fun _ _ => rfl) rfl hzB (s_ld rfl (.own meA rfl)) ?_
     refine e_pure 5 rfl (by kernel_rfl) (by kernel_rfl) (by kernel_rfl) rfl (s_field rfl rfl (by decide)) ?_
     refine e_take 6 rfl (by kernel_rfl) (by kernel_rfl) (by kernel_rfl) (by kernel_rfl) (fun _ _ => rfl) rfl hzB (step_cast (v' := .int .i64 ((x.n.toNat : Nat) : Int)) (s_ld rfl (.own meA rfl)) (congrArg _ (by omega))) ?_
     refine e_one 7 rfl (by kernel_rfl) ?_
     refine o_bs (E := Eix) (xs := [x.n.toNat]) (vs := [_]) rfl rfl rfl rfl rfl (by decide) (by decide) fun b71 S71 hS71 => ?_
     refine o_nil ?_
     refine x_oneS hzB ?_
     refine e_one 8 rfl (by kernel_rfl) ?_
     refine o_app hX (hS71.rdk hiA) rfl rfl rfl rfl (by simp only [List.length_singleton]; omega) (by simp only [List.length_singleton]; omega) rfl pkA fun a72 c72 S72 hS72 => ?_
     refine o_nil ?_
     refine x_oneS hzB ?_
     refine e_one 9 rfl (by kernel_rfl) ?_
     refine o_step rfl (s_nil rfl) ?_
     refine o_nil ?_
     refine x_oneS hzB ?_
     refine e_one 10 rfl (by kernel_rfl) ?_
     refine o_step rfl (s_field rfl rfl (by decide)) ?_
     refine o_nil ?_
     refine x_oneS hzB ?_
     refine e_one 11 rfl (by kernel_rfl) ?_
     refine o_store rfl rfl rfl upA ltA rfl ?_
     refine o_nil ?_
     refine x_oneL rfl ?_
     refine e_done (by kernel_rfl) ?_
     refine x_block ?_
     refine x_then (hK11 _ _ ?_)
     refine c_region ?_
     refine o_step rfl (s_add rfl rfl (by omega)) ?_
     refine o_step rfl (s_move rfl) ?_
     refine o_nil ?_
     exact x_then (x_inv (q + 1, es.set x.n.toNat true, a72, c72, R ++ [x.n.toNat], S64, S72) ⟨by dsimp only; omega, by dsimp only; rw [List.length_set]; exact hes, hS64, hS72, hRI.yes hx o8 (by omega)⟩ (by first | omega | (dsimp only; omega)) sbA hzB)
    ·
     refine o_step rfl (step_cast (v' := .bool false) (s_not rfl) (by rw [show z = true by simpa using hz]; rfl)) ?_
     refine o_step rfl (s_pick_t rfl rfl) ?_
     refine o_nil ?_
     refine x_then (hK13 _ _ ?_)
     refine c_false rfl ?_
     refine c_skip ?_
     refine x_block ?_
     refine x_then (hK11 _ _ ?_)
     refine c_region ?_
     refine o_step rfl (s_add rfl rfl (by omega)) ?_
     refine o_step rfl (s_move rfl) ?_
     refine o_nil ?_
     exact x_then (x_inv (q + 1, es, xa, xc, R, SE, SX) ⟨by dsimp only; omega, hes, hE, hX, hRI.old hx hez hz⟩ (by first | omega | (dsimp only; omega)) sbA hzB)
   ·
    refine o_step rfl (step_cast (v' := .bool false) (s_eql rfl rfl) (by rw [decide_eq_false o8])) ?_
    refine o_step rfl (s_move rfl) ?_
    refine o_no rfl rfl rfl rfl ?_
    refine o_no rfl rfl rfl rfl ?_
    refine o_no rfl rfl rfl rfl ?_
    refine o_no rfl rfl rfl rfl ?_
    refine o_no rfl rfl rfl rfl ?_
    refine o_no rfl rfl rfl rfl ?_
    refine o_step rfl (s_pick_f rfl rfl) ?_
    refine o_nil ?_
    refine x_then (hK13 _ _ ?_)
    refine c_false rfl ?_
    refine c_skip ?_
    refine x_block ?_
    refine x_then (hK11 _ _ ?_)
    refine c_region ?_
    refine o_step rfl (s_add rfl rfl (by omega)) ?_
    refine o_step rfl (s_move rfl) ?_
    refine o_nil ?_
    exact x_then (x_inv (q + 1, es, xa, xc, R, SE, SX) ⟨by dsimp only; omega, hes, hE, hX, hRI.no hx o8⟩ (by first | omega | (dsimp only; omega)) sbA hzB)
  ·
   obtain rfl : q = re.length := by omega
   refine o_step rfl (step_cast (v' := .bool false) (s_lss rfl rfl) (by rw [decide_eq_false (by omega)])) ?_
   refine o_nil ?_
   refine x_then (hK9 _ _ ?_)
   refine c_seq fun _ hK15 => ?_
   refine c_false rfl ?_
   refine c_exit ?_
   refine x_then_exit ?_
   refine x_then_exit ?_
   refine x_block_exit ?_
   refine x_then (hK7 _ _ ?_)
   refine c_seq fun _ hK16 => ?_
   refine c_seq fun _ hK17 => ?_
   refine c_region ?_
   refine o_step rfl (s_move rfl) ?_
   refine o_step rfl (s_nil rfl) ?_
   refine o_step rfl (s_field rfl rfl (by decide)) ?_
   refine o_step rfl (s_ld rfl (.own meA rfl)) ?_
   refine o_step rfl (s_len rfl) ?_
   refine o_step rfl (s_move rfl) ?_
   refine o_nil ?_
   refine x_then (hK17 _ _ ?_)
   refine c_block ?_
   refine c_loop3 (fun (i : Nat) (cs : List Sp) (SS : Hp) => i ≤ gcn re + 1 ∧ cs = List.replicate i noS ++ List.replicate (gcn re + 1 - i) ⟨0, 0⟩ ∧ OwnS Esp 2 45 (.slice (some ⟨b34, 0, none⟩) (gcn re + 1) (gcn re + 1)) cs SS) (fun (i : Nat) (cs : List Sp) (SS : Hp) => [(81, .int .i64 i)]) [(6, _), (7, _), (80, _)] (fun (i : Nat) (cs : List Sp) (SS : Hp) => (b21, .cells [.slice ra re.length rc, .slice ta w.length tc, .slice (some ⟨b25, 0, none⟩) re.length re.length, .slice xa R.length xc, .slice (some ⟨b19, 0, none⟩) 1 1, .map (some b15), .map (some b16), .map (some b17), .slice (some ⟨b34, 0, none⟩) (gcn re + 1) (gcn re + 1), .int .i64 (f : Nat), .bool false].toArray 103 (0, 0)) :: (b15, mxO EkF [] 0) :: (b16, mxO EkT [] 0) :: (b17, mxO EkP [] 0) :: (S19 ++ (SS ++ (Sb ++ (SE ++ SX))))) (fun (i : Nat) (cs : List Sp) (SS : Hp) => gcn re + 1 - i) 0 (List.replicate (gcn re + 1) ⟨0, 0⟩) S34 ⟨Nat.zero_le _, rfl, hS34⟩ sbA sbA hzB ?_
   rintro i cs SS ⟨hi, hcs, hC⟩
   have hcl : cs.length = gcn re + 1 := by rw [hcs, List.length_append, List.length_replicate, List.length_replicate]; omega
   have hsC := hC.sl
   rw [hcl] at hsC
   refine c_seq fun _ hK18 => ?_
   refine c_region ?_
   by_cases hil : (i : Int) < (gcn re + 1 : Nat)
   ·
    refine o_step rfl (step_cast (v' := .bool true) (s_lss rfl rfl) (by rw [decide_eq_true (by omega)])) ?_
    refine o_nil ?_
    refine x_then (hK18 _ _ ?_)
    refine c_seq fun _ hK19 => ?_
    refine c_true rfl ?_
    refine c_skip ?_
    refine x_then (hK19 _ _ ?_)
    refine c_seq fun _ hK20 => ?_
    refine c_block ?_
    refine c_seq fun _ hK21 => ?_
    refine c_region ?_
    refine o_step rfl (s_move rfl) ?_
    refine o_step rfl (s_assign rfl) ?_
    refine o_nil ?_
    refine x_then (hK21 _ _ ?_)
    refine c_drawE ((b21, .cells [.slice ra re.length rc, .slice ta w.length tc, .slice (some ⟨b25, 0, none⟩) re.length re.length, .slice xa R.length xc, .slice (some ⟨b19, 0, none⟩) 1 1, .map (some b15), .map (some b16), .map (some b17), .slice (some ⟨b34, 0, none⟩) (gcn re + 1) (gcn re + 1), .int .i64 (f : Nat), .bool false].toArray 103 (0, 0)) :: SS) (fun i => Nat.beq i 7) ?_
    refine e_pure 0 rfl (by kernel_rfl) (by kernel_rfl) (by kernel_rfl) rfl (s_move rfl) ?_
    refine e_pure 1 rfl (by kernel_rfl) (by kernel_rfl) (by kernel_rfl) rfl (s_nil rfl) ?_
    refine e_pure 2 rfl (by kernel_rfl) (by kernel_rfl) (by kernel_rfl) rfl (s_field rfl rfl (by decide)) ?_
    refine e_take 3 rfl (by kernel_rfl) (by kernel_rfl) (by kernel_rfl) (by kernel_rfl) (fun _ _ => rfl) rfl hzB (s_ld rfl (.own meA rfl)) ?_
    refine e_pure 4 rfl (by kernel_rfl) (by kernel_rfl) (by kernel_rfl) rfl (s_move rfl) ?_
    refine e_take 5 rfl (by kernel_rfl) (by kernel_rfl) (by kernel_rfl) (by kernel_rfl) (fun _ _ => rfl) rfl hzB (s_ldB (cs := Esp noS) rfl (RdPK.old0 hw.2).cels rfl) ?_
    refine e_one 6 rfl (by kernel_rfl) ?_
    refine o_step rfl (s_idx rfl rfl hsC (by omega)) ?_
    refine o_nil ?_
    refine x_oneS hzB ?_
    refine e_one 7 rfl (by kernel_rfl) ?_
    refine o_stSE i noS hC pkA rfl rfl (by omega) (by rfl) fun S' hS' => ?_
    refine o_nil ?_
    refine x_oneL rfl ?_
    refine e_done (by kernel_rfl) ?_
    refine x_block ?_
    refine x_then (hK20 _ _ ?_)
    refine c_region ?_
    refine o_step rfl (s_add rfl rfl (by omega)) ?_
    refine o_step rfl (s_move rfl) ?_
    refine o_nil ?_
    exact x_then (x_inv (i + 1, cs.set i noS, S') ⟨by dsimp only; omega, by dsimp only; rw [hcs, show gcn re + 1 - i = (gcn re + 1 - (i + 1)) + 1 by omega]; exact rep_set, hS'⟩ (by first | omega | (dsimp only; omega)) sbA hzB)
   ·
    obtain rfl : i = gcn re + 1 := by omega
    rw [Nat.sub_self, List.replicate_zero, List.append_nil] at hcs
    subst hcs
    refine o_step rfl (step_cast (v' := .bool false) (s_lss rfl rfl) (by rw [decide_eq_false (by omega)])) ?_
    refine o_nil ?_
    refine x_then (hK18 _ _ ?_)
    refine c_seq fun _ hK22 => ?_
    refine c_false rfl ?_
    refine c_exit ?_
    refine x_then_exit ?_
    refine x_then_exit ?_
    refine x_block_exit ?_
    refine x_then (hK16 _ _ ?_)
    refine c_seq fun _ hK23 => ?_
    refine c_region ?_
    refine o_step rfl (s_move rfl) ?_
    refine o_step rfl (s_assign rfl) ?_
    refine o_nil ?_
    refine x_then (hK23 _ _ ?_)
    refine c_ret ?_
    refine ?_
    refine x_sub (Sub.refl _) (H' := ((b21, .cells [.slice ra re.length rc, .slice ta w.length tc, .slice (some ⟨b25, 0, none⟩) re.length re.length, .slice xa R.length xc, .slice (some ⟨b19, 0, none⟩) 1 1, .map (some b15), .map (some b16), .map (some b17), .slice (some ⟨b34, 0, none⟩) (gcn re + 1) (gcn re + 1), .int .i64 (f : Nat), .bool false].toArray 103 (0, 0)) :: (b15, mxO EkF [] 0) :: (b16, mxO EkT [] 0) :: (b17, mxO EkP [] 0) :: (S19 ++ SS)) ++ (Sb ++ SX)) hzB ?_
    exact x_ret rfl (.tmp rfl (.nil)) (⟨(⟨b21, ra, rc, re, ta, tc, w, some ⟨b25, 0, none⟩, re.length, bl, xa, xc, R, b15, b16, b17, some ⟨b34, 0, none⟩, gcn re + 1, gcn re⟩ : BkE), (⟨⟨[], [], [], List.replicate (gcn re + 1) noS, f, 0⟩, some ⟨b19, 0, none⟩, 1, S19, SS, [], 0, [], 0, [], 0⟩ : BkS), Sb, SX, rfl, by dsimp only; rw [hbl]; rfl, ⟨rfl, rfl, rfl, rfl, rfl, rfl, rfl⟩, by dsimp only; rw [hbl]; exact hOb, hX, ⟨⟨_, hroot⟩, hrl, hwl, by dsimp only; omega, ⟨hbl, fun k y js r e hk hp => hB k y js r e (Nat.zero_le _) hk hp⟩, ⟨fun y hy h8 => ⟨(ref_n hsb hy h8).1, hRI.all hy h8⟩, fun y hy h7 => (by have := grp_le hsb hy h7; show 1 ≤ y.n ∧ y.n.toNat ≤ gcn re; omega), by have := (gl_take hsb re.length (Nat.le_refl _)).1; rw [List.take_length] at this; exact this⟩, fun r hr => (by have := hRI.le hes r hr; exact this), by dsimp only; omega⟩, ⟨hS19, hC, List.length_replicate, fun _ => rfl, fun _ => rfl, rfl, fun p => by simp [getM]⟩, rfl⟩)
/-- rows of spans that a pool bears -/
def RowP (N : Nat) (Pool : Hp) (s : Sl Sp) : Prop := s.xs.length = N ∧ IsSl s.v s.xs.length ∧ RdS Esp s.v s.xs Pool
theorem RowP.mono {N : Nat} {P P' : Hp} {s : Sl Sp} (h : RowP N P s) (hs : HIn P P') : RowP N P' s := ⟨h.1, h.2.1, h.2.2.mono hs⟩
def PoolR (zs : List (Sl Sp)) (N : Nat) (Pool : Hp) : Prop := ∀ s ∈ zs, RowP N Pool s
theorem PoolR.mono {zs : List (Sl Sp)} {N : Nat} {P P' : Hp} (h : PoolR zs N P) (hs : HIn P P') : PoolR zs N P' := fun s hm => (h s hm).mono hs
theorem PoolR.snoc {zs : List (Sl Sp)} {x : Sl Sp} {N : Nat} {P : Hp} (h : PoolR zs N P) (hx : RowP N P x) : PoolR (zs ++ [x]) N P := fun s hm => by
  rcases List.mem_append.1 hm with hm | hm
  · exact h s hm
  · obtain rfl := List.mem_singleton.1 hm
    exact hx
set_option maxHeartbeats 2000000 in
theorem moreV_fn (la : Option Addr) (lc : Nat) (zs : List (Sl Sp)) (SL Pool : Hp) (hS : OwnS Esl 1 32 (.slice la zs.length lc) zs SL) (N : Nat) (hz : PoolR zs N Pool) (x : Sl Sp) (hx : RowP N Pool x) (hzl : zs.length ≤ 1000000) (hN : N ≤ 1000000) : HL.Fn Tryd.prog 120 [.slice la zs.length lc, .slice x.a x.xs.length x.c] (fun _ => True) (SL ++ Pool) (fun v S' => ∃ a c zs' SL', v = .slice a zs'.length c ∧ S' = SL' ++ Pool ∧ OwnS Esl 1 32 (.slice a zs'.length c) zs' SL' ∧ PoolR zs' N Pool ∧ zs'.length ≤ zs.length + 1 ∧ (∀ s ∈ zs, s ∈ zs') ∧ x.xs ∈ zs'.map Sl.xs) := by
  refine fn_of Tryd.func120 rfl rfl rfl fun w0 hw => ?_
  have hsl := hS.sl
  have hx1 := hx.1
  refine c_seq fun _ hK1 => ?_
  refine c_region ?_
  refine o_step rfl (s_assign rfl) ?_
  refine o_nil ?_
  refine x_then (hK1 _ _ ?_)
  refine c_seq fun _ hK2 => ?_
  refine c_seq fun _ hK3 => ?_
  refine c_region ?_
  refine o_step rfl (s_assign rfl) ?_
  refine o_nil ?_
  refine x_then (hK3 _ _ ?_)
  refine c_block ?_
  -- not carried: 4
  refine c_loopB (fun (i : Nat) => i ≤ zs.length) (fun (i : Nat) => [(5, .int .i64 i)]) [(0, _), (1, _)] (fun (i : Nat) => SL ++ Pool) (fun (i : Nat) => zs.length - i) 0 (Nat.zero_le _) sbA sbA hzB ?_
  rintro i hi
  refine c_seq fun _ hK4 => ?_
  refine c_seq fun _ hK5 => ?_
  refine c_region ?_
  refine o_step rfl (s_move rfl) ?_
  refine o_step rfl (s_move rfl) ?_
  refine o_step rfl (s_len rfl) ?_
  by_cases hil : (i : Int) < zs.length
  ·
   obtain ⟨z, hzi⟩ : ∃ z, zs[i]? = some z := ⟨_, List.getElem?_eq_getElem (by omega)⟩
   have hzm := hz z (List.mem_of_getElem? hzi)
   have hz1 := hzm.1
   refine o_step rfl (step_cast (v' := .bool true) (s_lss rfl rfl) (by rw [decide_eq_true (by omega)])) ?_
   refine o_nil ?_
   refine x_then (hK5 _ _ ?_)
   refine c_true rfl ?_
   refine c_skip ?_
   refine x_then (hK4 _ _ ?_)
   refine c_seq fun _ hK6 => ?_
   refine c_block ?_
   refine c_seq fun _ hK7 => ?_
   refine c_region ?_
   refine o_step rfl (s_assign rfl) ?_
   refine o_nil ?_
   refine x_then (hK7 _ _ ?_)
   refine c_seq fun _ hK8 => ?_
   refine c_seq fun _ hK9 => ?_
   refine c_region ?_
   refine o_step rfl (s_assign rfl) ?_
   refine o_nil ?_
   refine x_then (hK9 _ _ ?_)
   refine c_block ?_
   refine c_loop2 (fun (k : Nat) (b : Bool) => k ≤ x.xs.length ∧ (b = true → ∀ m, m < k → z.xs[m]? = x.xs[m]?)) (fun (k : Nat) (b : Bool) => [(7, .int .i64 k), (6, .bool b)]) [(0, _), (1, _), (5, _), (8, _), (9, _), (10, _), (11, _)] (fun (k : Nat) (b : Bool) => SL ++ Pool) (fun (k : Nat) (b : Bool) => x.xs.length - k) 0 true ⟨Nat.zero_le _, fun _ m hm => absurd hm (Nat.not_lt_zero _)⟩ sbA sbA hzB ?_
   rintro k b ⟨hk, hbI⟩
   refine c_seq fun _ hK10 => ?_
   refine c_seq fun _ hK11 => ?_
   refine c_region ?_
   refine o_step rfl (s_move rfl) ?_
   refine o_step rfl (s_move rfl) ?_
   refine o_step rfl (s_len rfl) ?_
   by_cases hkl : (k : Int) < x.xs.length
   ·
    obtain ⟨p, hp⟩ : ∃ p, z.xs[k]? = some p := ⟨_, List.getElem?_eq_getElem (by have := hzm.1; have := hx.1; omega)⟩
    obtain ⟨q, hq⟩ : ∃ q, x.xs[k]? = some q := ⟨_, List.getElem?_eq_getElem (by omega)⟩
    refine o_step rfl (step_cast (v' := .bool true) (s_lss rfl rfl) (by rw [decide_eq_true (by omega)])) ?_
    refine o_nil ?_
    refine x_then (hK11 _ _ ?_)
    refine c_true rfl ?_
    refine c_skip ?_
    refine x_then (hK10 _ _ ?_)
    refine c_seq fun _ hK12 => ?_
    refine c_block ?_
    refine c_drawE (SL ++ Pool) (fun i => false) ?_
    by_cases hb : b = true
    ·
     refine e_take 0 rfl (by kernel_rfl) (by kernel_rfl) (by kernel_rfl) (by kernel_rfl) (fun _ _ => rfl) rfl hzB (step_cast (v' := .bool true) (s_move rfl) (by rw [hb])) ?_
     refine e_take 1 rfl (by kernel_rfl) (by kernel_rfl) (by kernel_rfl) (by kernel_rfl) (fun _ _ => rfl) rfl hzB (s_move rfl) ?_
     refine e_take 2 rfl (by kernel_rfl) (by kernel_rfl) (by kernel_rfl) (by kernel_rfl) (fun _ fr => by rw [wanted_of fr rfl rfl rfl]; rfl) rfl hzB (s_move rfl) ?_
     refine e_take 3 rfl (by kernel_rfl) (by kernel_rfl) (by kernel_rfl) (by kernel_rfl) (fun _ fr => by rw [wanted_of fr rfl rfl rfl]; rfl) rfl hzB (s_move rfl) ?_
     refine e_take 4 rfl (by kernel_rfl) (by kernel_rfl) (by kernel_rfl) (by kernel_rfl) (fun _ fr => by rw [wanted_of fr rfl rfl rfl]; rfl) rfl hzB (s_idx rfl rfl hsl (by omega)) ?_
     refine e_take 5 rfl (by kernel_rfl) (by kernel_rfl) (by kernel_rfl) (by kernel_rfl) (fun _ fr => by rw [wanted_of fr rfl rfl rfl]; rfl) rfl hzB (s_ld rfl ((hS.rdk hiA).ld i 0 hzi rfl (by decide) (by omega))) ?_
     refine e_take 6 rfl (by kernel_rfl) (by kernel_rfl) (by kernel_rfl) (by kernel_rfl) (fun _ fr => by rw [wanted_of fr rfl rfl rfl]; rfl) rfl hzB (s_move rfl) ?_
     refine e_take 7 rfl (by kernel_rfl) (by kernel_rfl) (by kernel_rfl) (by kernel_rfl) (fun _ fr => by rw [wanted_of fr rfl rfl rfl]; rfl) rfl hzB (s_idx rfl rfl hzm.2.1 (by omega)) ?_
     refine e_take 8 rfl (by kernel_rfl) (by kernel_rfl) (by kernel_rfl) (by kernel_rfl) (fun _ fr => by rw [wanted_of fr rfl rfl rfl]; rfl) rfl hzB (s_ldB rfl ((hzm.2.2.rdk hiA).cels hp) lnA) ?_
     refine e_take 9 rfl (by kernel_rfl) (by kernel_rfl) (by kernel_rfl) (by kernel_rfl) (fun _ fr => by rw [wanted_of fr rfl rfl rfl]; rfl) rfl hzB (s_move rfl) ?_
     refine e_take 10 rfl (by kernel_rfl) (by kernel_rfl) (by kernel_rfl) (by kernel_rfl) (fun _ fr => by rw [wanted_of fr rfl rfl rfl]; rfl) rfl hzB (s_move rfl) ?_
     refine e_take 11 rfl (by kernel_rfl) (by kernel_rfl) (by kernel_rfl) (by kernel_rfl) (fun _ fr => by rw [wanted_of fr rfl rfl rfl]; rfl) rfl hzB (s_idx rfl rfl hx.2.1 (by omega)) ?_
     refine e_take 12 rfl (by kernel_rfl) (by kernel_rfl) (by kernel_rfl) (by kernel_rfl) (fun _ fr => by rw [wanted_of fr rfl rfl rfl]; rfl) rfl hzB (s_ldB rfl ((hx.2.2.rdk hiA).cels hq) lnA) ?_
     refine e_take 13 rfl (by kernel_rfl) (by kernel_rfl) (by kernel_rfl) (by kernel_rfl) (fun _ fr => by rw [wanted_of fr rfl rfl rfl]; rfl) rfl hzB (s_eql_sp rfl rfl) ?_
     refine e_take 14 rfl (by kernel_rfl) (by kernel_rfl) (by kernel_rfl) (by kernel_rfl) (fun _ _ => rfl) rfl hzB (s_pick_t rfl rfl) ?_
     refine e_take 15 rfl (by kernel_rfl) (by kernel_rfl) (by kernel_rfl) (by kernel_rfl) (fun _ _ => rfl) rfl hzB (s_assign rfl) ?_
     refine e_done (by kernel_rfl) ?_
     refine x_block ?_
     refine x_then (hK12 _ _ ?_)
     refine c_region ?_
     refine o_step rfl (s_move rfl) ?_
     refine o_step rfl (s_add rfl rfl (by omega)) ?_
     refine o_step rfl (s_assign rfl) ?_
     refine o_nil ?_
     exact x_then (x_inv (k + 1, _) ⟨by dsimp only; omega, fun h m hm => if e : m = k then (by subst e; rw [hp, hq]; exact congrArg some (of_decide_eq_true h)) else hbI hb m (by omega)⟩ (by first | omega | (dsimp only; omega)) sbA hzB)
    ·
     refine e_take 0 rfl (by kernel_rfl) (by kernel_rfl) (by kernel_rfl) (by kernel_rfl) (fun _ _ => rfl) rfl hzB (step_cast (v' := .bool false) (s_move rfl) (by rw [Bool.eq_false_iff.2 hb])) ?_
     refine e_take 1 rfl (by kernel_rfl) (by kernel_rfl) (by kernel_rfl) (by kernel_rfl) (fun _ _ => rfl) rfl hzB (s_move rfl) ?_
     refine e_skip 2 rfl (by kernel_rfl) (by kernel_rfl) (by kernel_rfl) rfl rfl rfl rfl ?_
     refine e_skip 3 rfl (by kernel_rfl) (by kernel_rfl) (by kernel_rfl) rfl rfl rfl rfl ?_
     refine e_skip 4 rfl (by kernel_rfl) (by kernel_rfl) (by kernel_rfl) rfl rfl rfl rfl ?_
     refine e_skip 5 rfl (by kernel_rfl) (by kernel_rfl) (by kernel_rfl) rfl rfl rfl rfl ?_
     refine e_skip 6 rfl (by kernel_rfl) (by kernel_rfl) (by kernel_rfl) rfl rfl rfl rfl ?_
     refine e_skip 7 rfl (by kernel_rfl) (by kernel_rfl) (by kernel_rfl) rfl rfl rfl rfl ?_
     refine e_skip 8 rfl (by kernel_rfl) (by kernel_rfl) (by kernel_rfl) rfl rfl rfl rfl ?_
     refine e_skip 9 rfl (by kernel_rfl) (by kernel_rfl) (by kernel_rfl) rfl rfl rfl rfl ?_
     refine e_skip 10 rfl (by kernel_rfl) (by kernel_rfl) (by kernel_rfl) rfl rfl rfl rfl ?_
     refine e_skip 11 rfl (by kernel_rfl) (by kernel_rfl) (by kernel_rfl) rfl rfl rfl rfl ?_
     refine e_skip 12 rfl (by kernel_rfl) (by kernel_rfl) (by kernel_rfl) rfl rfl rfl rfl ?_
     refine e_skip 13 rfl (by kernel_rfl) (by kernel_rfl) (by kernel_rfl) rfl rfl rfl rfl ?_
     refine e_take 14 rfl (by kernel_rfl) (by kernel_rfl) (by kernel_rfl) (by kernel_rfl) (fun _ _ => rfl) rfl hzB (s_pick_f rfl rfl) ?_
     refine e_take 15 rfl (by kernel_rfl) (by kernel_rfl) (by kernel_rfl) (by kernel_rfl) (fun _ _ => rfl) rfl hzB (s_assign rfl) ?_
     refine e_done (by kernel_rfl) ?_
     refine x_block ?_
     refine x_then (hK12 _ _ ?_)
     refine c_region ?_
     refine o_step rfl (s_move rfl) ?_
     refine o_step rfl (s_add rfl rfl (by omega)) ?_
     refine o_step rfl (s_assign rfl) ?_
     refine o_nil ?_
     exact x_then (x_inv (k + 1, false) ⟨by dsimp only; omega, fun h => (by cases h)⟩ (by first | omega | (dsimp only; omega)) sbA hzB)
   ·
    obtain rfl : k = x.xs.length := by omega
    refine o_step rfl (step_cast (v' := .bool false) (s_lss rfl rfl) (by rw [decide_eq_false (by omega)])) ?_
    refine o_nil ?_
    refine x_then (hK11 _ _ ?_)
    refine c_false rfl ?_
    refine c_exit ?_
    refine x_then_exit ?_
    refine x_then_exit ?_
    refine x_block_exit ?_
    refine x_then (hK8 _ _ ?_)
    refine c_seq fun _ hK13 => ?_
    refine c_region ?_
    by_cases hb2 : b = true
    ·
     have hzx : z.xs = x.xs := List.ext_getElem? fun m => by
       rcases Nat.lt_or_ge m x.xs.length with h | h
       · exact hbI hb2 m h
       · rw [List.getElem?_eq_none (by omega), List.getElem?_eq_none h]
     refine o_step rfl (step_cast (v' := .bool true) (s_move rfl) (by rw [hb2])) ?_
     refine o_nil ?_
     refine x_then (hK13 _ _ ?_)
     refine c_true rfl ?_
     refine c_seq fun _ hK14 => ?_
     refine c_region ?_
     refine o_step rfl (s_move rfl) ?_
     refine o_step rfl (s_assign rfl) ?_
     refine o_nil ?_
     refine x_then (hK14 _ _ ?_)
     refine c_ret ?_
     refine x_block_ret (x_then_ret (x_then_ret (x_block_ret (x_then_ret (?_)))))
     exact x_ret rfl (.tmp rfl (.nil)) (⟨la, lc, zs, SL, rfl, rfl, hS, hz, by omega, fun s h => h, List.mem_map.2 ⟨z, List.mem_of_getElem? hzi, hzx⟩⟩)
    ·
     refine o_step rfl (step_cast (v' := .bool false) (s_move rfl) (by rw [Bool.eq_false_iff.2 hb2])) ?_
     refine o_nil ?_
     refine x_then (hK13 _ _ ?_)
     refine c_false rfl ?_
     refine c_skip ?_
     refine x_block ?_
     refine x_then (hK6 _ _ ?_)
     refine c_region ?_
     refine o_step rfl (s_move rfl) ?_
     refine o_step rfl (s_add rfl rfl (by omega)) ?_
     refine o_step rfl (s_assign rfl) ?_
     refine o_nil ?_
     exact x_then (x_inv (i + 1) (by omega) (by first | omega | (dsimp only; omega)) sbA hzB)
  ·
   refine o_step rfl (step_cast (v' := .bool false) (s_lss rfl rfl) (by rw [decide_eq_false (by omega)])) ?_
   refine o_nil ?_
   refine x_then (hK5 _ _ ?_)
   refine c_false rfl ?_
   refine c_exit ?_
   refine x_then_exit ?_
   refine x_then_exit ?_
   refine x_block_exit ?_
   refine x_then (hK2 _ _ ?_)
   refine c_seq fun _ hK15 => ?_
   refine c_region ?_
   refine o_step rfl (s_move rfl) ?_
   refine o_step rfl (s_move rfl) ?_
   refine o_bs (E := Esl) (xs := [x]) (vs := [_]) rfl rfl rfl rfl rfl (by decide) (by decide) fun b39 S39 hS39 => ?_
   refine o_app hS (hS39.rdk hiA) rfl rfl rfl rfl (by simp; omega) (by simp; omega) rfl pkA fun a40 c40 S40 hS40 => ?_
   refine o_step rfl (s_assign rfl) ?_
   refine o_nil ?_
   refine x_then (hK15 _ _ ?_)
   refine c_ret ?_
   refine ?_
   refine x_sub (Sub.refl _) (H' := S40 ++ Pool) hzB ?_
   exact x_ret rfl (.tmp rfl (.nil)) (⟨a40, c40, zs ++ [x], S40, rfl, rfl, hS40, hz.snoc hx, by simp, fun s h => List.mem_append_left _ h, List.mem_map.2 ⟨x, by simp, rfl⟩⟩)
set_option maxHeartbeats 2000000 in
theorem tAllV_fn (bT : Nat) (ra : Option Addr) (rc : Nat) (re : List Nd) (n : Int) (ha : Option Addr) (hc : Nat) (hl : List Nat) (left : Int) (la : Option Addr) (lc : Nat) (zs : List (Sl Sp)) (SL : Hp) (hS : OwnS Esl 1 32 (.slice la zs.length lc) zs SL) (ka : Option Addr) (kc : Nat) (ms : List (Sl Sp)) (SM Pool : Hp) (hM : OwnS Esl 1 32 (.slice ka ms.length kc) ms SM) (N : Nat) (hz : PoolR zs N Pool) (hm : PoolR ms N Pool) (hN : N ≤ 1000000) (hK : (zs.length : Int) + left ≤ 600000) (hlo : -700000 ≤ left) (hml : ms.length ≤ 3000000) (hzl : zs.length ≤ 3000000) : HL.Fn Tryd.prog 108 [pt bT, .slice la zs.length lc, .slice ka ms.length kc] (fun _ => True) ((bT, .cells [.slice ra re.length rc, .int .i64 n, .slice ha hl.length hc, .int .i64 left].toArray 144 (0, 0)) :: (SL ++ (SM ++ Pool))) (fun v S' => ∃ a c zs' SL' left', v = .slice a zs'.length c ∧ S' = (bT, .cells [.slice ra re.length rc, .int .i64 n, .slice ha hl.length hc, .int .i64 left'].toArray 144 (0, 0)) :: (SL' ++ (SM ++ Pool)) ∧ OwnS Esl 1 32 (.slice a zs'.length c) zs' SL' ∧ PoolR zs' N Pool ∧ (zs'.length : Int) + left' ≤ zs.length + left ∧ left' ≤ left ∧ -700000 ≤ left' ∧ (0 ≤ left' → (∀ s ∈ zs, s ∈ zs') ∧ (∀ s ∈ ms, s.xs ∈ zs'.map Sl.xs) ∧ left' + ms.length ≤ left)) := by
  refine fn_of Tryd.func108 rfl rfl rfl fun w0 hw => ?_
  have hsl := hM.sl
  refine c_seq fun _ hK1 => ?_
  refine c_region ?_
  refine o_step rfl (s_assign rfl) ?_
  refine o_nil ?_
  refine x_then (hK1 _ _ ?_)
  refine c_seq fun _ hK2 => ?_
  refine c_seq fun _ hK3 => ?_
  refine c_region ?_
  refine o_step rfl (s_assign rfl) ?_
  refine o_nil ?_
  refine x_then (hK3 _ _ ?_)
  refine c_block ?_
  refine c_loop6 (fun (i : Nat) (a : Option Addr) (c : Nat) (ys : List (Sl Sp)) (S : Hp) (lf : Int) => i ≤ ms.length ∧ OwnS Esl 1 32 (.slice a ys.length c) ys S ∧ PoolR ys N Pool ∧ (ys.length : Int) + lf ≤ zs.length + left ∧ lf ≤ left ∧ -700000 ≤ lf ∧ (∀ s ∈ zs, s ∈ ys) ∧ (∀ m s, m < i → ms[m]? = some s → s.xs ∈ ys.map Sl.xs) ∧ lf + i ≤ left) (fun (i : Nat) (a : Option Addr) (c : Nat) (ys : List (Sl Sp)) (S : Hp) (lf : Int) => [(7, .int .i64 i), (1, .slice a ys.length c)]) [(0, _), (2, _), (6, _)] (fun (i : Nat) (a : Option Addr) (c : Nat) (ys : List (Sl Sp)) (S : Hp) (lf : Int) => (bT, .cells [.slice ra re.length rc, .int .i64 n, .slice ha hl.length hc, .int .i64 lf].toArray 144 (0, 0)) :: (S ++ (SM ++ Pool))) (fun (i : Nat) (a : Option Addr) (c : Nat) (ys : List (Sl Sp)) (S : Hp) (lf : Int) => ms.length - i) 0 la lc zs SL left ⟨Nat.zero_le _, hS, hz, Int.le_refl _, Int.le_refl _, hlo, fun s h => h, fun m s h => absurd h (Nat.not_lt_zero _), by omega⟩ sbA sbA hzB ?_
  rintro i a c ys S lf ⟨hi, hy, hyz, hyk, hlf, hlo2, hin1, hin2, hcst⟩
  refine c_seq fun _ hK4 => ?_
  refine c_seq fun _ hK5 => ?_
  refine c_region ?_
  refine o_step rfl (s_move rfl) ?_
  refine o_step rfl (s_move rfl) ?_
  refine o_step rfl (s_len rfl) ?_
  by_cases hil : (i : Int) < ms.length
  ·
   obtain ⟨z, hzi⟩ : ∃ z, ms[i]? = some z := ⟨_, List.getElem?_eq_getElem (by omega)⟩
   have hzm := hm z (List.mem_of_getElem? hzi)
   refine o_step rfl (step_cast (v' := .bool true) (s_lss rfl rfl) (by rw [decide_eq_true (by omega)])) ?_
   refine o_step rfl (s_move rfl) ?_
   refine o_yes rfl rfl ?_
   refine o_step rfl (s_move rfl) ?_
   refine o_yes rfl rfl ?_
   refine o_step rfl (s_nil rfl) ?_
   refine o_yes rfl rfl ?_
   refine o_step rfl (s_field rfl rfl (by decide)) ?_
   refine o_yes rfl rfl ?_
   refine o_step rfl (s_ld rfl (.own meA rfl)) ?_
   refine o_yes rfl rfl ?_
   by_cases hlf0 : lf ≥ 0
   ·
    refine o_step rfl (step_cast (v' := .bool true) (s_geq rfl rfl) (by rw [decide_eq_true (by omega)])) ?_
    refine o_step rfl (s_pick_t rfl rfl) ?_
    refine o_nil ?_
    refine x_then (hK5 _ _ ?_)
    refine c_true rfl ?_
    refine c_skip ?_
    refine x_then (hK4 _ _ ?_)
    refine c_seq fun _ hK6 => ?_
    refine c_block ?_
    refine c_seq fun _ hK7 => ?_
    refine c_region ?_
    refine o_step rfl (s_move rfl) ?_
    refine o_step rfl (s_move rfl) ?_
    refine o_step rfl (s_nil rfl) ?_
    refine o_step rfl (s_field rfl rfl (by decide)) ?_
    refine o_step rfl (s_ld rfl (.own meA rfl)) ?_
    refine o_step rfl (s_sub rfl rfl (by omega)) ?_
    refine o_step rfl (s_move rfl) ?_
    refine o_step rfl (s_len rfl) ?_
    refine o_step rfl (s_sub rfl rfl (by omega)) ?_
    refine o_step rfl (s_nil rfl) ?_
    refine o_step rfl (s_field rfl rfl (by decide)) ?_
    refine o_store rfl rfl rfl upA ltA rfl ?_
    refine o_nil ?_
    refine x_then (hK7 _ _ ?_)
    refine c_region ?_
    refine o_step rfl (s_move rfl) ?_
    refine o_step rfl (s_move rfl) ?_
    refine o_step rfl (s_move rfl) ?_
    refine o_step rfl (s_idx rfl rfl hsl (by omega)) ?_
    refine o_step rfl (s_ld rfl ((hM.rdk hiA).ld i 0 hzi rfl (by decide) (by omega))) ?_
    refine o_call (moreV_fn a c ys S Pool hy N hyz z hzm (by omega) hN) rfl rfl rfl ((Pick.takeA pkA pkA)) (fun _ _ => trivial) (fun v37 S37 ⟨a37, c37, ys37, SL37, hv37, hS37, hO37, hP37, hl37, hu37, hw37⟩ => ?_)
    subst hv37
    subst hS37
    refine o_step rfl (s_assign rfl) ?_
    refine o_nil ?_
    refine x_block ?_
    refine x_then (hK6 _ _ ?_)
    refine c_region ?_
    refine o_step rfl (s_move rfl) ?_
    refine o_step rfl (s_add rfl rfl (by omega)) ?_
    refine o_step rfl (s_assign rfl) ?_
    refine o_nil ?_
    have hin3 : ∀ m s, m < i + 1 → ms[m]? = some s → s.xs ∈ ys37.map Sl.xs := fun m s hmi hms => by
      by_cases e : m = i
      · subst e; rw [hzi] at hms; cases hms; exact hw37
      · obtain ⟨s2, h1, h2⟩ := List.mem_map.1 (hin2 m s (by omega) hms)
        exact List.mem_map.2 ⟨s2, hu37 s2 h1, h2⟩
    exact x_then (x_inv (i + 1, a37, c37, ys37, SL37, lf - 1 - (ys.length : Int)) ⟨by dsimp only; omega, hO37, hP37, by dsimp only; omega, by dsimp only; omega, by dsimp only; omega, fun s h => hu37 s (hin1 s h), hin3, by dsimp only; omega⟩ (by first | omega | (dsimp only; omega)) sbA hzB)
   ·
    refine o_step rfl (step_cast (v' := .bool false) (s_geq rfl rfl) (by rw [decide_eq_false (by omega)])) ?_
    refine o_step rfl (s_pick_t rfl rfl) ?_
    refine o_nil ?_
    refine x_then (hK5 _ _ ?_)
    refine c_false rfl ?_
    refine c_exit ?_
    refine x_then_exit ?_
    refine x_then_exit ?_
    refine x_block_exit ?_
    refine x_then (hK2 _ _ ?_)
    refine c_seq fun _ hK8 => ?_
    refine c_region ?_
    refine o_step rfl (s_move rfl) ?_
    refine o_step rfl (s_assign rfl) ?_
    refine o_nil ?_
    refine x_then (hK8 _ _ ?_)
    refine c_ret ?_
    refine ?_
    refine x_sub (Sub.refl _) (H' := (bT, .cells [.slice ra re.length rc, .int .i64 n, .slice ha hl.length hc, .int .i64 lf].toArray 144 (0, 0)) :: (S ++ (SM ++ Pool))) hzB ?_
    exact x_ret rfl (.tmp rfl (.nil)) (⟨a, c, ys, S, lf, rfl, rfl, hy, hyz, hyk, hlf, hlo2, fun h => absurd h (by omega)⟩)
  ·
   refine o_step rfl (step_cast (v' := .bool false) (s_lss rfl rfl) (by rw [decide_eq_false (by omega)])) ?_
   refine o_step rfl (s_move rfl) ?_
   refine o_no rfl rfl rfl rfl ?_
   refine o_no rfl rfl rfl rfl ?_
   refine o_no rfl rfl rfl rfl ?_
   refine o_no rfl rfl rfl rfl ?_
   refine o_no rfl rfl rfl rfl ?_
   refine o_step rfl (s_pick_f rfl rfl) ?_
   refine o_nil ?_
   refine x_then (hK5 _ _ ?_)
   refine c_false rfl ?_
   refine c_exit ?_
   refine x_then_exit ?_
   refine x_then_exit ?_
   refine x_block_exit ?_
   refine x_then (hK2 _ _ ?_)
   refine c_seq fun _ hK9 => ?_
   refine c_region ?_
   refine o_step rfl (s_move rfl) ?_
   refine o_step rfl (s_assign rfl) ?_
   refine o_nil ?_
   refine x_then (hK9 _ _ ?_)
   refine c_ret ?_
   refine ?_
   refine x_sub (Sub.refl _) (H' := (bT, .cells [.slice ra re.length rc, .int .i64 n, .slice ha hl.length hc, .int .i64 lf].toArray 144 (0, 0)) :: (S ++ (SM ++ Pool))) hzB ?_
   exact x_ret rfl (.tmp rfl (.nil)) (⟨a, c, ys, S, lf, rfl, rfl, hy, hyz, hyk, hlf, hlo2, fun _ => ⟨hin1, fun s hs => (by obtain ⟨m, hm1⟩ := List.mem_iff_getElem?.1 hs; exact hin2 m s (by have := (List.getElem?_eq_some_iff.1 hm1).1; omega) hm1), by omega⟩⟩)
end Go.Proofs.YtloepfcndglmmaaDoor
