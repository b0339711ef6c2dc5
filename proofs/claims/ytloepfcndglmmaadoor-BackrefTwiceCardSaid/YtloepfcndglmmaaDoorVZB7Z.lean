/- Part of the proofs over this seat: see the text that holds the theorem. Conditions: each theorem bears its own. -/
import Derived.Test.YtloepfcndglmmaaDoorHTZ
import Derived.Test.YtloepfcndglmmaaDoorVZB5Z
import Derived.Test.YtloepfcndglmmaaDoorBS7Z
import Derived.Test.YtloepfcndglmmaaDoorBS3Z
namespace Go.Proofs.YtloepfcndglmmaaDoor
open Go Go.HL Go.Proofs Go.HL.Kl Go.HL.Kl.Mc Go.HL.Kl.Mc.AskE
theorem cels_sub {κ : Cx} {H : Hp} {b o : Nat} {l cs : List Value} (h : Cels κ H ⟨b, o, none⟩ l) (f : Nat) (hv : ∀ (j : Nat) u, cs[j]? = some u → l[f + j]? = some u) : Cels κ H ⟨b, o + f, none⟩ cs :=
  ⟨fun w st j u hu => by
    have := h.out w st (f + j) u (hv j u hu)
    rw [Addr.add_lit] at this ⊢
    rw [Nat.add_assoc]; exact this⟩
theorem good1 {K : SrE} {x : Nd} {cs : List Sp} {i j : Nat} (h : x.op = 1) : K.good x cs i j ↔ j = i + 1 ∧ ∃ b, K.w[i]? = some b ∧ x.set.getLsbD b.toNat = true :=
  ⟨fun hg => by rcases hg with h1 | h1 | h1 | h1 <;> first | exact h1.2 | omega, fun hg => .inl ⟨h, hg⟩⟩
theorem good2 {K : SrE} {x : Nd} {cs : List Sp} {i j : Nat} (h : x.op = 2) : K.good x cs i j ↔ j = 0 :=
  ⟨fun hg => by rcases hg with h1 | h1 | h1 | h1 <;> first | exact h1.2 | omega, fun hg => .inr (.inl ⟨h, hg⟩)⟩
theorem good3 {K : SrE} {x : Nd} {cs : List Sp} {i j : Nat} (h : x.op = 3) : K.good x cs i j ↔ i = K.w.length :=
  ⟨fun hg => by rcases hg with h1 | h1 | h1 | h1 <;> first | exact h1.2 | omega, fun hg => .inr (.inr (.inl ⟨h, hg⟩))⟩
theorem good8 {K : SrE} {x : Nd} {cs : List Sp} {i j : Nat} {old : Sp} (h : x.op = 8) (ho : cs[x.n.toNat]? = some old) (h0 : 0 ≤ old.fr) : K.good x cs i j ↔ old ≠ noS ∧ (K.w.drop old.fr.toNat).take (old.to.toNat - old.fr.toNat) = (K.w.drop i).take (j - i) := by
  have e : cs.getD x.n.toNat noS = old := by rw [List.getD_eq_getElem?_getD, ho]; rfl
  have e2 : (old.to - old.fr).toNat = old.to.toNat - old.fr.toNat := by omega
  constructor
  · intro hg
    rcases hg with h1 | h1 | h1 | h1
    · omega
    · omega
    · omega
    · rw [e, e2] at h1; exact h1.2
  · intro hg
    refine .inr (.inr (.inr ⟨h, ?_⟩))
    rw [e, e2]; exact hg
theorem good8n {K : SrE} {x : Nd} {cs : List Sp} {i j : Nat} (h : x.op = 8) (ho : cs[x.n.toNat]? = some noS) : ¬ K.good x cs i j := fun hg => by
  have e : cs.getD x.n.toNat noS = noS := by rw [List.getD_eq_getElem?_getD, ho]; rfl
  rcases hg with h1 | h1 | h1 | h1
  · omega
  · omega
  · omega
  · exact h1.2.1 e
set_option maxHeartbeats 8000000 in
theorem takeK_fn (K : BkE) (hK : K.ok) (n : Nat) (s : BkS) (at_ i j up : Nat) (b : Bool) (S' : SS) (hR : K.Rep s) (hF : Fin K.sr s.S) (hat : at_ < K.re.length) (hij : i ≤ j) (hj : j ≤ K.w.length) (hup : up ≤ s.S.fs.length) (hE : Ev K.sr s.S (.take at_ i j up) b S') (hn : s.S.fuel ≤ n + 1) (hnb : n < 9223372036854775807) (hz : Sz S') (hnx : ∀ u, NextB K n u) (hTk : TakeB K n) : HL.Fn Tryd.prog 47 [pt K.b, .int .i64 at_, .agg [.int .i64 (i : Nat), .int .i64 (j : Nat)].toArray, .int .i64 up] (fun W => K.Env W (keys (K.obj s :: K.tl s))) (K.obj s :: K.tl s) (AnsB K (S') (b)) := by
  refine fn_of Tryd.func47 rfl rfl rfl fun w0 hw => ?_
  have hwl := hK.wl
  have hrl := hK.len
  have hsl := hw.d1.sl
  have hst := hw.d2.sl
  have hstc := hst.cap
  have hsb := hw.d3.sl
  have hbll := hK.bl.1
  have hfu := hE.iFuel
  have hsp := hR.sp.sl
  rw [hR.cl] at hsp
  have hcl := hR.cl
  have RST : K.Rep ({ s with S := s.S.tick } : BkS) := ⟨hR.fr, hR.sp, hR.cl, hR.en, hR.et, hR.el, hR.ef⟩
  have FST : Fin K.sr ({ s with S := s.S.tick } : BkS).S := ⟨hF.fr, hF.ch, hF.sp⟩
  have hnt : ({ s with S := s.S.tick } : BkS).S.fuel ≤ n := by show s.S.fuel - 1 ≤ n; omega
  obtain ⟨x, hx⟩ : ∃ x, K.re[at_]? = some x := ⟨_, List.getElem?_eq_getElem hat⟩
  have hxm := List.mem_of_getElem? hx
  obtain ⟨ks, e0, hp0⟩ := hK.at_ hx
  have hkn := hp0.wf.2.1
  have hop := op_rng (hK.rng hxm)
  obtain ⟨hbl, hbh, hble⟩ := hK.beh hp0
  have hksl := ks.num_le
  refine cR fun _ hK1 => ?_; refine o_box rfl rfl rfl fun b6 => ?_; refine oA (oZ hK1 (c_seq fun _ hK2 => ?_)); refine cR fun _ hK3 => ?_; refine oM ?_; refine oS sN ?_; refine oS sF ?_; refine oS sL ?_; refine oS eqF (oZ hK3 ?_); refine cFZ hK2 (c_seq fun _ hK4 => ?_); refine cR fun _ hK5 => ?_; refine oM ?_; refine oS sN ?_; refine oS sF ?_; refine oS sL (oZ hK5 ?_); refine cFZ hK4 (cR fun _ hK6 => ?_); refine oM ?_; refine oS sN ?_; refine oS sF ?_; refine oS sL ?_; refine oS (step_cast (v' := .int .i64 ((s.S.fuel - 1 : Nat) : Int)) (s_sub rfl rfl (by omega)) (congrArg _ (by omega))) ?_; refine oS sN ?_; refine oS sF ?_; refine o_store rfl rfl rfl upA ltA rfl ?_; refine oZ hK6 (cR fun _ hK7 => ?_); refine oM ?_; refine oS sN ?_; refine oS sF ?_; refine oS sL (oM ?_); refine oS (s_idx rfl rfl hsl (by omega)) ?_
  refine oA (oZ hK7 (c_seq fun _ hK8 => ?_)); refine cR fun _ hK9 => ?_; refine oM ?_; refine oS sN ?_; refine oS sF ?_; refine oS (s_ld rfl ((RdK.old hw.d1 hw.a1).ld at_ 0 hx rfl (by decide) (by omega))) ?_; refine oZ hK9 (c_block (cR fun _ hK10 => ?_))
  by_cases o1 : x.op = 1
  ·have hlf := hE.iLeaf hx (.inl o1)
   rw [good1 o1] at hlf
   refine oS (eqT (h := o1)) ?_; refine oA (oZ hK10 ?_); refine cT (c_seq fun _ hK11 => ?_); refine c_drawE ((b6, .cells [.int .i64 (i : Nat), .int .i64 (j : Nat)].toArray 45 (0, 0)) :: ((K.obj ({ s with S := s.S.tick } : BkS)) :: K.tl ({ s with S := s.S.tick } : BkS))) (fun i => Nat.beq i 26 || Nat.beq i 27 || Nat.beq i 28) ?_; refine eP 0 rfl sF ?_; refine e_takeT 1 rfl (by kernel_rfl) (by kernel_rfl) (by kernel_rfl) 40 (by kernel_rfl) (by kernel_rfl) (fun _ _ => rfl) rfl hzB (s_ld rfl (.own meA rfl)) ?_; refine eP 2 rfl sF ?_; refine e_takeT 3 rfl (by kernel_rfl) (by kernel_rfl) (by kernel_rfl) 40 (by kernel_rfl) (by kernel_rfl) (fun _ _ => rfl) rfl hzB (s_ld rfl (.own meA rfl)) ?_; refine eP 4 rfl sD ?_
   by_cases hji : (j : Int) = (i : Int) + 1
   ·obtain ⟨c, hc⟩ : ∃ c, K.w[i]? = some c := gE
    refine eP 5 rfl eqT ?_; refine eP 6 rfl sM ?_; refine e_takeT 7 rfl (by kernel_rfl) (by kernel_rfl) (by kernel_rfl) 40 (by kernel_rfl) (by kernel_rfl) (fun _ fr => by rw [wanted_of fr rfl rfl rfl]; rfl) rfl hzB (s_move rfl) ?_; refine e_takeT 8 rfl (by kernel_rfl) (by kernel_rfl) (by kernel_rfl) 40 (by kernel_rfl) (by kernel_rfl) (fun _ fr => by rw [wanted_of fr rfl rfl rfl]; rfl) rfl hzB (s_nil rfl) ?_; refine e_takeT 9 rfl (by kernel_rfl) (by kernel_rfl) (by kernel_rfl) 40 (by kernel_rfl) (by kernel_rfl) (fun _ fr => by rw [wanted_of fr rfl rfl rfl]; rfl) rfl hzB (s_field rfl rfl (by decide)) ?_; refine e_takeT 10 rfl (by kernel_rfl) (by kernel_rfl) (by kernel_rfl) 40 (by kernel_rfl) (by kernel_rfl) (fun _ fr => by rw [wanted_of fr rfl rfl rfl]; rfl) rfl hzB (s_ldB rfl (cels_sub ((RdK.old hw.d1 hw.a1).lds at_ hx rfl) 1 nd_set) (Ec_lenM _)) ?_; refine e_takeT 11 rfl (by kernel_rfl) (by kernel_rfl) (by kernel_rfl) 40 (by kernel_rfl) (by kernel_rfl) (fun _ fr => by rw [wanted_of fr rfl rfl rfl]; rfl) rfl hzB (s_move rfl) ?_; refine e_takeT 12 rfl (by kernel_rfl) (by kernel_rfl) (by kernel_rfl) 40 (by kernel_rfl) (by kernel_rfl) (fun _ fr => by rw [wanted_of fr rfl rfl rfl]; rfl) rfl hzB (s_nil rfl) ?_; refine e_takeT 13 rfl (by kernel_rfl) (by kernel_rfl) (by kernel_rfl) 40 (by kernel_rfl) (by kernel_rfl) (fun _ fr => by rw [wanted_of fr rfl rfl rfl]; rfl) rfl hzB (s_field rfl rfl (by decide)) ?_; refine e_takeT 14 rfl (by kernel_rfl) (by kernel_rfl) (by kernel_rfl) 40 (by kernel_rfl) (by kernel_rfl) (fun _ fr => by rw [wanted_of fr rfl rfl rfl]; rfl) rfl hzB (s_ld rfl (.own meA rfl)) ?_; refine e_takeT 15 rfl (by kernel_rfl) (by kernel_rfl) (by kernel_rfl) 40 (by kernel_rfl) (by kernel_rfl) (fun _ fr => by rw [wanted_of fr rfl rfl rfl]; rfl) rfl hzB (s_field rfl rfl (by decide)) ?_
    refine e_takeT 16 rfl (by kernel_rfl) (by kernel_rfl) (by kernel_rfl) 40 (by kernel_rfl) (by kernel_rfl) (fun _ fr => by rw [wanted_of fr rfl rfl rfl]; rfl) rfl hzB (s_ld rfl (.own meA rfl)) ?_; refine e_takeT 17 rfl (by kernel_rfl) (by kernel_rfl) (by kernel_rfl) 40 (by kernel_rfl) (by kernel_rfl) (fun _ fr => by rw [wanted_of fr rfl rfl rfl]; rfl) rfl hzB (s_idx rfl rfl hst (by omega)) ?_; refine e_takeT 18 rfl (by kernel_rfl) (by kernel_rfl) (by kernel_rfl) 40 (by kernel_rfl) (by kernel_rfl) (fun _ fr => by rw [wanted_of fr rfl rfl rfl]; rfl) rfl hzB (s_ld rfl ((RdK.old hw.d2 hw.a2).ld i 0 hc rfl (by decide) (by omega))) ?_; refine eO 19 rfl ?_; refine oY ?_; refine o_callP (has_fn x.set c.toNat c.toNat_lt) rfl rfl rfl (fun _ _ => trivial) (fun v63 hv63 => ?_); subst hv63
    cases hh : x.set.getLsbD c.toNat
    ·obtain ⟨_, rfl, rfl⟩ := hlf.resolve_right fun h => by obtain ⟨⟨_, c2, h1, h2⟩, _⟩ := h; have h1 : K.w[i]? = some c2 := h1; rw [hc] at h1; cases h1; rw [hh] at h2; cases h2
     refine oX ?_; refine eP 20 rfl sT ?_; refine eP 21 rfl sM ?_; refine eS 22 rfl (eS 23 rfl (eS 24 rfl (eS 25 rfl (eO 26 rfl ?_)))); refine oN (o_nil ?_); refine x_oneL rfl ?_; refine eO 27 rfl ?_; refine oS sP (o_nil ?_); refine x_oneL rfl ?_; refine eO 28 rfl (oA (o_nil ?_)); refine x_oneL rfl ?_; refine eZ hK11 (c_ret ?_); refine x_block_ret (x_then_ret (?_))
     refine x_sub (Sub.refl _) (H' := ((K.obj ({ s with S := s.S.tick } : BkS)) :: K.tl ({ s with S := s.S.tick } : BkS))) hzB ?_; exact xR rfl rfl (⟨({ s with S := s.S.tick } : BkS), rfl, rfl, RST, FST, rfl⟩)
    ·have hE2 := (hlf.resolve_left fun h => h.1 ⟨by omega, c, hc, hh⟩).2
     refine oX ?_; refine eP 20 rfl sT ?_; refine eP 21 rfl sM ?_; refine e_takeT 22 rfl (by kernel_rfl) (by kernel_rfl) (by kernel_rfl) 40 (by kernel_rfl) (by kernel_rfl) (fun _ fr => by rw [wanted_of fr rfl rfl rfl]; rfl) rfl hzB (s_move rfl) ?_; refine e_takeT 23 rfl (by kernel_rfl) (by kernel_rfl) (by kernel_rfl) 40 (by kernel_rfl) (by kernel_rfl) (fun _ fr => by rw [wanted_of fr rfl rfl rfl]; rfl) rfl hzB (s_move rfl) ?_; refine e_takeT 24 rfl (by kernel_rfl) (by kernel_rfl) (by kernel_rfl) 40 (by kernel_rfl) (by kernel_rfl) (fun _ fr => by rw [wanted_of fr rfl rfl rfl]; rfl) rfl hzB (s_field rfl rfl (by decide)) ?_; refine e_takeT 25 rfl (by kernel_rfl) (by kernel_rfl) (by kernel_rfl) 40 (by kernel_rfl) (by kernel_rfl) (fun _ fr => by rw [wanted_of fr rfl rfl rfl]; rfl) rfl hzB (s_ld rfl (.own meA rfl)) ?_; refine eO 26 rfl ?_; refine oY ?_; refine o_call (hnx up ({ s with S := s.S.tick } : BkS) j b S' RST FST hup hj hE2 hnt hz) rfl rfl rfl pkA (fun w st => hw.out st (hin_cons meA (hin_cons meA (hin_cons meA (hin_cons meA (hin_app hiA hiA)))))) (fun v70 S70 ⟨s2, hv70, hS70, hR2, hF2, he2⟩ => ?_); subst hv70
     subst hS70; refine o_nil ?_; refine x_oneL rfl ?_; refine eO 27 rfl ?_; refine oS sT (o_nil ?_); refine x_oneL rfl ?_; refine eO 28 rfl (oA (o_nil ?_)); refine x_oneL rfl ?_; refine eZ hK11 (c_ret ?_); refine x_block_ret (x_then_ret (?_))
     refine x_sub (Sub.refl _) (H' := ((K.obj s2) :: K.tl s2)) hzB ?_; exact xR rfl rfl (⟨s2, rfl, rfl, hR2, hF2, he2⟩)
   ·obtain ⟨_, rfl, rfl⟩ := hlf.resolve_right fun h => hji (by have := h.1.1; omega)
    refine eP 5 rfl eqF ?_; refine eP 6 rfl sM ?_; refine eS 7 rfl (eS 8 rfl (eS 9 rfl (eS 10 rfl (eS 11 rfl (eS 12 rfl (eS 13 rfl (eS 14 rfl (eS 15 rfl (eS 16 rfl (eS 17 rfl (eS 18 rfl (eO 19 rfl ?_)))))))))))); refine oN (oX ?_); refine eP 20 rfl sP ?_; refine eP 21 rfl sM ?_; refine eS 22 rfl (eS 23 rfl (eS 24 rfl (eS 25 rfl (eO 26 rfl ?_)))); refine oN (o_nil ?_); refine x_oneL rfl ?_; refine eO 27 rfl ?_; refine oS sP (o_nil ?_); refine x_oneL rfl ?_; refine eO 28 rfl (oA (o_nil ?_)); refine x_oneL rfl ?_; refine eZ hK11 (c_ret ?_); refine x_block_ret (x_then_ret (?_))
    refine x_sub (Sub.refl _) (H' := ((K.obj ({ s with S := s.S.tick } : BkS)) :: K.tl ({ s with S := s.S.tick } : BkS))) hzB ?_; exact xR rfl rfl (⟨({ s with S := s.S.tick } : BkS), rfl, rfl, RST, FST, rfl⟩)
  ·refine oS (eqF (h := o1)) ?_; refine oA (oZ hK10 ?_); refine cF (cR fun _ hK12 => ?_)
   by_cases o2 : x.op = 2
   ·have hlf := hE.iLeaf hx (.inr (.inl o2))
    rw [good2 o2] at hlf
    refine oS (eqT (h := o2)) ?_; refine oA (oZ hK12 ?_); refine cT (cR fun _ hK13 => ?_); refine oS sF ?_; refine oS sL ?_
    by_cases hj0 : (j : Int) = 0
    ·obtain rfl : j = 0 := by omega
     have hE2 := (hlf.resolve_left fun h => h.1 rfl).2
     refine oS eqT (oM ?_); refine oY (oM ?_); refine oY (oM ?_); refine oY ?_; refine o_call (hnx up ({ s with S := s.S.tick } : BkS) 0 b S' RST FST hup (Nat.zero_le _) hE2 hnt hz) rfl rfl rfl pkA (fun w st => hw.out st (hin_cons meA (hin_cons meA (hin_cons meA (hin_cons meA (hin_app hiA hiA)))))) (fun v80 S80 ⟨s2, hv80, hS80, hR2, hF2, he2⟩ => ?_); subst hv80
     subst hS80; refine oS sT (oA (oZ hK13 (c_ret ?_))); refine x_block_ret (x_then_ret (?_))
     refine x_sub (Sub.refl _) (H' := ((K.obj s2) :: K.tl s2)) hzB ?_; exact xR rfl rfl (⟨s2, rfl, rfl, hR2, hF2, he2⟩)
    ·obtain ⟨_, rfl, rfl⟩ := hlf.resolve_right fun h => hj0 (by have := h.1; omega)
     refine oS eqF (oM ?_); refine oN ?_; refine oN ?_; refine oN ?_; refine oS sP (oA (oZ hK13 (c_ret ?_))); refine x_block_ret (x_then_ret (?_))
     refine x_sub (Sub.refl _) (H' := ((K.obj ({ s with S := s.S.tick } : BkS)) :: K.tl ({ s with S := s.S.tick } : BkS))) hzB ?_; exact xR rfl rfl (⟨({ s with S := s.S.tick } : BkS), rfl, rfl, RST, FST, rfl⟩)
   ·refine oS (eqF (h := o2)) ?_; refine oA (oZ hK12 ?_); refine cF (cR fun _ hK14 => ?_)
    by_cases o3 : x.op = 3
    ·have hlf := hE.iLeaf hx (.inr (.inr (.inl o3)))
     rw [good3 o3] at hlf
     refine oS (eqT (h := o3)) ?_; refine oA (oZ hK14 ?_); refine cT (c_seq fun _ hK15 => ?_); refine c_drawE ((b6, .cells [.int .i64 (i : Nat), .int .i64 (j : Nat)].toArray 45 (0, 0)) :: ((K.obj ({ s with S := s.S.tick } : BkS)) :: K.tl ({ s with S := s.S.tick } : BkS))) (fun i => Nat.beq i 13 || Nat.beq i 14 || Nat.beq i 15) ?_; refine eP 0 rfl sF ?_; refine e_takeT 1 rfl (by kernel_rfl) (by kernel_rfl) (by kernel_rfl) 40 (by kernel_rfl) (by kernel_rfl) (fun _ _ => rfl) rfl hzB (s_ld rfl (.own meA rfl)) ?_; refine eP 2 rfl sM ?_; refine eP 3 rfl sN ?_; refine eP 4 rfl sF ?_; refine e_takeT 5 rfl (by kernel_rfl) (by kernel_rfl) (by kernel_rfl) 40 (by kernel_rfl) (by kernel_rfl) (fun _ _ => rfl) rfl hzB (s_ld rfl (.own meA rfl)) ?_; refine eP 6 rfl sC ?_
     by_cases hil : (i : Int) = K.w.length
     ·have hE2 := (hlf.resolve_left fun h => h.1 (by show i = K.w.length; omega)).2
      refine eP 7 rfl eqT ?_; refine eP 8 rfl sM ?_; refine e_takeT 9 rfl (by kernel_rfl) (by kernel_rfl) (by kernel_rfl) 40 (by kernel_rfl) (by kernel_rfl) (fun _ fr => by rw [wanted_of fr rfl rfl rfl]; rfl) rfl hzB (s_move rfl) ?_; refine e_takeT 10 rfl (by kernel_rfl) (by kernel_rfl) (by kernel_rfl) 40 (by kernel_rfl) (by kernel_rfl) (fun _ fr => by rw [wanted_of fr rfl rfl rfl]; rfl) rfl hzB (s_move rfl) ?_; refine e_takeT 11 rfl (by kernel_rfl) (by kernel_rfl) (by kernel_rfl) 40 (by kernel_rfl) (by kernel_rfl) (fun _ fr => by rw [wanted_of fr rfl rfl rfl]; rfl) rfl hzB (s_field rfl rfl (by decide)) ?_; refine e_takeT 12 rfl (by kernel_rfl) (by kernel_rfl) (by kernel_rfl) 40 (by kernel_rfl) (by kernel_rfl) (fun _ fr => by rw [wanted_of fr rfl rfl rfl]; rfl) rfl hzB (s_ld rfl (.own meA rfl)) ?_; refine eO 13 rfl ?_; refine oY ?_; refine o_call (hnx up ({ s with S := s.S.tick } : BkS) j b S' RST FST hup hj hE2 hnt hz) rfl rfl rfl pkA (fun w st => hw.out st (hin_cons meA (hin_cons meA (hin_cons meA (hin_cons meA (hin_app hiA hiA)))))) (fun v97 S97 ⟨s2, hv97, hS97, hR2, hF2, he2⟩ => ?_); subst hv97
      subst hS97; refine o_nil ?_; refine x_oneL rfl ?_; refine eO 14 rfl ?_; refine oS sT (o_nil ?_); refine x_oneL rfl ?_; refine eO 15 rfl (oA (o_nil ?_)); refine x_oneL rfl ?_; refine eZ hK15 (c_ret ?_); refine x_block_ret (x_then_ret (?_))
      refine x_sub (Sub.refl _) (H' := ((K.obj s2) :: K.tl s2)) hzB ?_; exact xR rfl rfl (⟨s2, rfl, rfl, hR2, hF2, he2⟩)
     ·obtain ⟨_, rfl, rfl⟩ := hlf.resolve_right fun h => hil (by have : i = K.w.length := h.1; omega)
      refine eP 7 rfl eqF ?_; refine eP 8 rfl sM ?_; refine eS 9 rfl (eS 10 rfl (eS 11 rfl (eS 12 rfl (eO 13 rfl ?_)))); refine oN (o_nil ?_); refine x_oneL rfl ?_; refine eO 14 rfl ?_; refine oS sP (o_nil ?_); refine x_oneL rfl ?_; refine eO 15 rfl (oA (o_nil ?_)); refine x_oneL rfl ?_; refine eZ hK15 (c_ret ?_); refine x_block_ret (x_then_ret (?_))
      refine x_sub (Sub.refl _) (H' := ((K.obj ({ s with S := s.S.tick } : BkS)) :: K.tl ({ s with S := s.S.tick } : BkS))) hzB ?_; exact xR rfl rfl (⟨({ s with S := s.S.tick } : BkS), rfl, rfl, RST, FST, rfl⟩)
    ·refine oS (eqF (h := o3)) ?_; refine oA (oZ hK14 ?_); refine cF (cR fun _ hK16 => ?_)
     by_cases o8 : x.op = 8
     ·have hlf := hE.iLeaf hx (.inr (.inr (.inr o8)))
      obtain ⟨hg1, hg2⟩ := hK.r8 x hxm o8
      obtain ⟨old, hold⟩ : ∃ y, s.S.cs[x.n.toNat]? = some y := gE
      refine oS (eqT (h := o8)) ?_; refine oA (oZ hK16 ?_); refine cT (c_seq fun _ hK17 => ?_); refine c_drawE ((b6, .cells [.int .i64 (i : Nat), .int .i64 (j : Nat)].toArray 45 (0, 0)) :: ((K.obj ({ s with S := s.S.tick } : BkS)) :: K.tl ({ s with S := s.S.tick } : BkS))) (fun i => Nat.beq i 11) ?_; refine eP 0 rfl sM ?_; refine eP 1 rfl sN ?_; refine eP 2 rfl sF ?_; refine eK 3 rfl sL ?_; refine eP 4 rfl sM ?_; refine eP 5 rfl sN ?_; refine eP 6 rfl sF ?_; refine eK 7 rfl (s_ld rfl ((RdK.old hw.d1 hw.a1).ld at_ 5 hx rfl (by decide) (by omega))) ?_; refine eK 8 rfl (s_idx rfl rfl hsp (by omega)) ?_; refine eK 9 rfl (s_ldB rfl ((hR.sp.rdk hiA).cels hold) lnA) ?_; refine eO 10 rfl ?_; refine o_alloc (l := Esp ⟨0, 0⟩) rfl rfl fun b10 => ?_; refine oX (eO 11 rfl ?_); refine o_stW rfl rfl upA lnA lnA onA ?_; refine o_nil ?_; refine x_oneL rfl ?_; refine eZ hK17 (c_seq fun _ hK18 => ?_); refine c_drawE ((b10, .cells (Esp old).toArray 45 (0, 0)) :: (b6, .cells [.int .i64 (i : Nat), .int .i64 (j : Nat)].toArray 45 (0, 0)) :: ((K.obj ({ s with S := s.S.tick } : BkS)) :: K.tl ({ s with S := s.S.tick } : BkS))) (fun i => Nat.beq i 29 || Nat.beq i 30 || Nat.beq i 31) ?_
      refine e_takeT 0 rfl (by kernel_rfl) (by kernel_rfl) (by kernel_rfl) 40 (by kernel_rfl) (by kernel_rfl) (fun _ _ => rfl) rfl hzB (s_ldB rfl (RdPK.cels (.own meA)) lnA) ?_; refine e_takeT 1 rfl (by kernel_rfl) (by kernel_rfl) (by kernel_rfl) 40 (by kernel_rfl) (by kernel_rfl) (fun _ _ => rfl) rfl hzB (s_ldB (cs := Esp noS) rfl ((RdPK.old hw.g hw.ga).cels) rfl) ?_
      by_cases hno : ¬ old = noS
      ·obtain ⟨q1, q2, q3⟩ := (hF.sp old (List.mem_of_getElem? hold)).resolve_left hno
       have q3 : old.to ≤ K.w.length := q3
       have hlf := hlf
       rw [good8 o8 hold q1] at hlf
       have hw1l : ((K.w.drop old.fr.toNat).take (old.to.toNat - old.fr.toNat)).length = old.to.toNat - old.fr.toNat := by rw [List.length_take, List.length_drop]; omega
       have hw2l : ((K.w.drop i).take (j - i)).length = j - i := by rw [List.length_take, List.length_drop]; omega
       refine eP 2 rfl (step_cast (v' := .bool true) (s_neq_sp rfl rfl) (by rw [decide_eq_false hno]; rfl)) ?_; refine eP 3 rfl sM ?_; refine e_takeT 4 rfl (by kernel_rfl) (by kernel_rfl) (by kernel_rfl) 40 (by kernel_rfl) (by kernel_rfl) (fun _ fr => by rw [wanted_of fr rfl rfl rfl]; rfl) rfl hzB (s_move rfl) ?_; refine e_takeT 5 rfl (by kernel_rfl) (by kernel_rfl) (by kernel_rfl) 40 (by kernel_rfl) (by kernel_rfl) (fun _ fr => by rw [wanted_of fr rfl rfl rfl]; rfl) rfl hzB (s_nil rfl) ?_; refine e_takeT 6 rfl (by kernel_rfl) (by kernel_rfl) (by kernel_rfl) 40 (by kernel_rfl) (by kernel_rfl) (fun _ fr => by rw [wanted_of fr rfl rfl rfl]; rfl) rfl hzB (s_field rfl rfl (by decide)) ?_; refine e_takeT 7 rfl (by kernel_rfl) (by kernel_rfl) (by kernel_rfl) 40 (by kernel_rfl) (by kernel_rfl) (fun _ fr => by rw [wanted_of fr rfl rfl rfl]; rfl) rfl hzB (s_ld rfl (.own meA rfl)) ?_; refine e_takeT 8 rfl (by kernel_rfl) (by kernel_rfl) (by kernel_rfl) 40 (by kernel_rfl) (by kernel_rfl) (fun _ fr => by rw [wanted_of fr rfl rfl rfl]; rfl) rfl hzB (s_field rfl rfl (by decide)) ?_; refine e_takeT 9 rfl (by kernel_rfl) (by kernel_rfl) (by kernel_rfl) 40 (by kernel_rfl) (by kernel_rfl) (fun _ fr => by rw [wanted_of fr rfl rfl rfl]; rfl) rfl hzB (s_ld rfl (.own meA rfl)) ?_; refine e_takeT 10 rfl (by kernel_rfl) (by kernel_rfl) (by kernel_rfl) 40 (by kernel_rfl) (by kernel_rfl) (fun _ fr => by rw [wanted_of fr rfl rfl rfl]; rfl) rfl hzB (s_field rfl rfl (by decide)) ?_; refine e_takeT 11 rfl (by kernel_rfl) (by kernel_rfl) (by kernel_rfl) 40 (by kernel_rfl) (by kernel_rfl) (fun _ fr => by rw [wanted_of fr rfl rfl rfl]; rfl) rfl hzB (s_ld rfl (.own meA rfl)) ?_; refine e_takeT 12 rfl (by kernel_rfl) (by kernel_rfl) (by kernel_rfl) 40 (by kernel_rfl) (by kernel_rfl) (fun _ fr => by rw [wanted_of fr rfl rfl rfl]; rfl) rfl hzB (step_cast (v' := .slice (midA K.ta K.tc old.fr.toNat 1) ((K.w.drop old.fr.toNat).take (old.to.toNat - old.fr.toNat)).length (K.tc - old.fr.toNat)) (s_slice_mid rfl rfl rfl (by omega)) (by rw [hw1l])) ?_
       refine e_takeT 13 rfl (by kernel_rfl) (by kernel_rfl) (by kernel_rfl) 40 (by kernel_rfl) (by kernel_rfl) (fun _ fr => by rw [wanted_of fr rfl rfl rfl]; rfl) rfl hzB (s_move rfl) ?_; refine e_takeT 14 rfl (by kernel_rfl) (by kernel_rfl) (by kernel_rfl) 40 (by kernel_rfl) (by kernel_rfl) (fun _ fr => by rw [wanted_of fr rfl rfl rfl]; rfl) rfl hzB (s_nil rfl) ?_; refine e_takeT 15 rfl (by kernel_rfl) (by kernel_rfl) (by kernel_rfl) 40 (by kernel_rfl) (by kernel_rfl) (fun _ fr => by rw [wanted_of fr rfl rfl rfl]; rfl) rfl hzB (s_field rfl rfl (by decide)) ?_; refine e_takeT 16 rfl (by kernel_rfl) (by kernel_rfl) (by kernel_rfl) 40 (by kernel_rfl) (by kernel_rfl) (fun _ fr => by rw [wanted_of fr rfl rfl rfl]; rfl) rfl hzB (s_ld rfl (.own meA rfl)) ?_; refine e_takeT 17 rfl (by kernel_rfl) (by kernel_rfl) (by kernel_rfl) 40 (by kernel_rfl) (by kernel_rfl) (fun _ fr => by rw [wanted_of fr rfl rfl rfl]; rfl) rfl hzB (s_field rfl rfl (by decide)) ?_; refine e_takeT 18 rfl (by kernel_rfl) (by kernel_rfl) (by kernel_rfl) 40 (by kernel_rfl) (by kernel_rfl) (fun _ fr => by rw [wanted_of fr rfl rfl rfl]; rfl) rfl hzB (s_ld rfl (.own meA rfl)) ?_; refine e_takeT 19 rfl (by kernel_rfl) (by kernel_rfl) (by kernel_rfl) 40 (by kernel_rfl) (by kernel_rfl) (fun _ fr => by rw [wanted_of fr rfl rfl rfl]; rfl) rfl hzB (s_field rfl rfl (by decide)) ?_; refine e_takeT 20 rfl (by kernel_rfl) (by kernel_rfl) (by kernel_rfl) 40 (by kernel_rfl) (by kernel_rfl) (fun _ fr => by rw [wanted_of fr rfl rfl rfl]; rfl) rfl hzB (s_ld rfl (.own meA rfl)) ?_; refine e_takeT 21 rfl (by kernel_rfl) (by kernel_rfl) (by kernel_rfl) 40 (by kernel_rfl) (by kernel_rfl) (fun _ fr => by rw [wanted_of fr rfl rfl rfl]; rfl) rfl hzB (step_cast (v' := .slice (midA K.ta K.tc i 1) ((K.w.drop i).take (j - i)).length (K.tc - i)) (s_slice_mid rfl rfl rfl (by omega)) (by rw [hw2l]; simp only [Int.toNat_natCast])) ?_
       refine eO 22 rfl ?_; refine oY ?_; refine o_callP (bEqual_fn (midA K.ta K.tc old.fr.toNat 1) (K.tc - old.fr.toNat) ((K.w.drop old.fr.toNat).take (old.to.toNat - old.fr.toNat)) (midA K.ta K.tc i 1) (K.tc - i) ((K.w.drop i).take (j - i))) rfl rfl rfl (fun w st => ⟨((RdK.old hw.d2 hw.a2).out w st).mid old.fr.toNat old.to.toNat (by omega) (by omega), ((RdK.old hw.d2 hw.a2).out w st).mid i j hij hj⟩) (fun v133 hv133 => ?_); subst hv133
       cases hq : decide (((K.w.drop old.fr.toNat).take (old.to.toNat - old.fr.toNat)) = ((K.w.drop i).take (j - i)))
       ·obtain ⟨_, rfl, rfl⟩ := hlf.resolve_right fun h => (of_decide_eq_false hq) h.1.2
        refine oX ?_; refine eP 23 rfl sT ?_; refine eP 24 rfl sM ?_; refine eS 25 rfl (eS 26 rfl (eS 27 rfl (eS 28 rfl (eO 29 rfl ?_)))); refine oN (o_nil ?_); refine x_oneL rfl ?_; refine eO 30 rfl ?_; refine oS sP (o_nil ?_); refine x_oneL rfl ?_; refine eO 31 rfl (oA (o_nil ?_)); refine x_oneL rfl ?_; refine eZ hK18 (c_ret ?_); refine x_block_ret (x_then_ret (?_))
        refine x_sub (Sub.refl _) (H' := ((K.obj ({ s with S := s.S.tick } : BkS)) :: K.tl ({ s with S := s.S.tick } : BkS))) hzB ?_; exact xR rfl rfl (⟨({ s with S := s.S.tick } : BkS), rfl, rfl, RST, FST, rfl⟩)
       ·have hE2 := (hlf.resolve_left fun h => h.1 ⟨hno, of_decide_eq_true hq⟩).2
        refine oX ?_; refine eP 23 rfl sT ?_; refine eP 24 rfl sM ?_; refine e_takeT 25 rfl (by kernel_rfl) (by kernel_rfl) (by kernel_rfl) 40 (by kernel_rfl) (by kernel_rfl) (fun _ fr => by rw [wanted_of fr rfl rfl rfl]; rfl) rfl hzB (s_move rfl) ?_; refine e_takeT 26 rfl (by kernel_rfl) (by kernel_rfl) (by kernel_rfl) 40 (by kernel_rfl) (by kernel_rfl) (fun _ fr => by rw [wanted_of fr rfl rfl rfl]; rfl) rfl hzB (s_move rfl) ?_; refine e_takeT 27 rfl (by kernel_rfl) (by kernel_rfl) (by kernel_rfl) 40 (by kernel_rfl) (by kernel_rfl) (fun _ fr => by rw [wanted_of fr rfl rfl rfl]; rfl) rfl hzB (s_field rfl rfl (by decide)) ?_; refine e_takeT 28 rfl (by kernel_rfl) (by kernel_rfl) (by kernel_rfl) 40 (by kernel_rfl) (by kernel_rfl) (fun _ fr => by rw [wanted_of fr rfl rfl rfl]; rfl) rfl hzB (s_ld rfl (.own meA rfl)) ?_; refine eO 29 rfl ?_; refine oY ?_; refine o_call (hnx up ({ s with S := s.S.tick } : BkS) j b S' RST FST hup hj hE2 hnt hz) rfl rfl rfl pkA (fun w st => hw.out st (hin_cons meA (hin_cons meA (hin_cons meA (hin_cons meA (hin_app hiA hiA)))))) (fun v140 S140 ⟨s2, hv140, hS140, hR2, hF2, he2⟩ => ?_); subst hv140
        subst hS140; refine o_nil ?_; refine x_oneL rfl ?_; refine eO 30 rfl ?_; refine oS sT (o_nil ?_); refine x_oneL rfl ?_; refine eO 31 rfl (oA (o_nil ?_)); refine x_oneL rfl ?_; refine eZ hK18 (c_ret ?_); refine x_block_ret (x_then_ret (?_))
        refine x_sub (Sub.refl _) (H' := ((K.obj s2) :: K.tl s2)) hzB ?_; exact xR rfl rfl (⟨s2, rfl, rfl, hR2, hF2, he2⟩)
      ·have hold0 : s.S.cs[x.n.toNat]? = some noS := by rw [hold, Decidable.not_not.1 hno]
       obtain ⟨_, rfl, rfl⟩ := hlf.resolve_right fun h => good8n o8 hold0 h.1
       refine eP 2 rfl (step_cast (v' := .bool false) (s_neq_sp rfl rfl) (by rw [decide_eq_true (Decidable.not_not.1 hno)]; rfl)) ?_; refine eP 3 rfl sM ?_; refine eS 4 rfl (eS 5 rfl (eS 6 rfl (eS 7 rfl (eS 8 rfl (eS 9 rfl (eS 10 rfl (eS 11 rfl (eS 12 rfl (eS 13 rfl (eS 14 rfl (eS 15 rfl (eS 16 rfl (eS 17 rfl (eS 18 rfl (eS 19 rfl (eS 20 rfl (eS 21 rfl (eO 22 rfl ?_)))))))))))))))))); refine oN (oX ?_); refine eP 23 rfl sP ?_; refine eP 24 rfl sM ?_; refine eS 25 rfl (eS 26 rfl (eS 27 rfl (eS 28 rfl (eO 29 rfl ?_)))); refine oN (o_nil ?_); refine x_oneL rfl ?_; refine eO 30 rfl ?_; refine oS sP (o_nil ?_); refine x_oneL rfl ?_; refine eO 31 rfl (oA (o_nil ?_)); refine x_oneL rfl ?_; refine eZ hK18 (c_ret ?_); refine x_block_ret (x_then_ret (?_))
       refine x_sub (Sub.refl _) (H' := ((K.obj ({ s with S := s.S.tick } : BkS)) :: K.tl ({ s with S := s.S.tick } : BkS))) hzB ?_; exact xR rfl rfl (⟨({ s with S := s.S.tick } : BkS), rfl, rfl, RST, FST, rfl⟩)
     ·refine oS (eqF (h := o8)) ?_; refine oA (oZ hK16 ?_); refine cF (cR fun _ hK19 => ?_)
      by_cases o5 : x.op = 5
      ·have hA := hE.iAltT hx o5
       rw [show x.kids.toNat = ks.num by omega] at hA
       refine oS (eqT (h := o5)) ?_; refine oA (oZ hK19 ?_); refine cT (cR fun _ hK20 => ?_); refine oM ?_; refine oS (step_cast (v' := .int .i64 (((at_ + 1) : Nat) : Int)) (s_add rfl rfl (by omega)) (congrArg _ (by omega))) ?_; refine oA (oZ hK20 (c_seq fun _ hK21 => ?_)); refine cR fun _ hK22 => ?_; refine oM ?_; refine oS sN ?_; refine oS sF ?_; refine oS (s_ld rfl ((RdK.old hw.d1 hw.a1).ld at_ 8 hx rfl (by decide) (by omega))) ?_; refine oM (oZ hK22 (c_block ?_))
       -- not carried: 8
       refine c_loop4 (fun (q : BkS) (m : Nat) (kid : Nat) (g : F) => K.Rep q ∧ Fin K.sr q.S ∧ Part K.re g kid (at_ + 1 + ks.size) ∧ (m : Int) + g.num = x.kids ∧ Ev K.sr q.S (.alt kid g.num i j up) b S' ∧ q.S.fuel ≤ n ∧ up ≤ q.S.fs.length) (fun (q : BkS) (m : Nat) (kid : Nat) (g : F) => [(150, .int .i64 m), (11, .int .i64 kid)]) [(0, _), (1, _), (3, _), (6, _), (149, _)] (fun (q : BkS) (m : Nat) (kid : Nat) (g : F) => (b6, .cells [.int .i64 (i : Nat), .int .i64 (j : Nat)].toArray 45 (0, 0)) :: ((K.obj q) :: K.tl q)) (fun (q : BkS) (m : Nat) (kid : Nat) (g : F) => g.num) ({ s with S := s.S.tick } : BkS) 0 (at_ + 1) ks ⟨RST, FST, hp0.head.2.1, by omega, hA, hnt, hup⟩ sbA sbA hzB ?_
       rintro q m kid g ⟨hRq, hFq, hpg, hmg, hEl, hnq, hupq⟩
       refine cR fun _ hK23 => ?_
       by_cases hmk : (m : Int) < x.kids
       ·obtain ⟨y, js, r, rfl⟩ : ∃ y js r, g = F.nd y js r := by cases g with | nil => simp only [F.num] at hmg; omega | nd y a c => exact ⟨y, a, c, rfl⟩
        simp only [F.num] at hEl hmg
        obtain ⟨b1, S2, hT, hc⟩ := hEl.iAlt
        have hkl := (List.getElem?_eq_some_iff.1 hpg.head.1).1
        obtain ⟨hbl2, hbh2, hble2⟩ := hK.beh hpg
        rw [hbh2] at hc
        have hz2 : Sz S2 := by rcases hc with ⟨_, _, h⟩ | ⟨_, h⟩ <;> first | (rw [← h]; exact hz) | exact hz.gr h.mono
        have hTm := hT.mono
        have hT1 := hTm.fuel
        have hT2 := hTm.fs
        refine oS lsT (oZ hK23 (c_seq fun _ hK24 => ?_)); refine cTZ hK24 (c_seq fun _ hK25 => ?_); refine c_block (c_seq fun _ hK26 => ?_); refine cR fun _ hK27 => ?_; refine oM (oM ?_); refine oS (s_ldB rfl (RdPK.cels (.own meA)) lnA) ?_; refine oM ?_; refine o_call (hTk q kid i j up b1 S2 hRq hFq hkl hij hj hupq hT hnq hz2) rfl rfl rfl pkA (fun w st => hw.out st (hin_cons meA (hin_cons meA (hin_cons meA (hin_cons meA (hin_app hiA hiA)))))) (fun v156 S156 ⟨s2, hv156, hS156, hR2, hF2, he2⟩ => ?_); subst hv156
        subst hS156
        cases b1
        ·subst he2
         have hEl2 := (hc.resolve_left fun h => (by cases h.1)).2
         refine oZ hK27 ?_; refine cFZ hK26 (c_region (oM ?_)); refine oS sN ?_; refine oS sF ?_; refine oS sL (oM ?_); refine oS (s_idx rfl rfl hsb (by omega)) ?_; refine oS (s_ld rfl ((RdK.old hw.d3 hw.a3).ld kid 0 hbl2 rfl (by decide) (by omega))) ?_; refine oA (o_nil (x_block (xZ hK25 (c_region ?_)))); refine oS sD (oM (o_nil ?_)); exact x_then (x_inv (s2, m + 1, kid + 1 + js.size, r) ⟨hR2, hF2, hpg.head.2.2, by dsimp only; omega, hEl2, by dsimp only; omega, by dsimp only; omega⟩ (by simp only [F.num]; omega) sbA hzB)
        ·subst he2
         obtain ⟨rfl, rfl⟩ := (hc.resolve_right fun h => (by cases h.1)).2
         refine oZ hK27 ?_; refine cT (cR fun _ hK28 => ?_); refine oA (oZ hK28 (c_ret ?_)); refine x_then_ret (x_block_ret (x_then_ret (x_then_ret (x_block_ret (x_then_ret (x_block_ret (x_then_ret (?_))))))))
         refine x_sub (Sub.refl _) (H' := ((K.obj s2) :: K.tl s2)) hzB ?_; exact xR rfl rfl (⟨s2, rfl, rfl, hR2, hF2, rfl⟩)
       ·have hg0 : g.num = 0 := by omega
        rw [hg0] at hEl
        obtain ⟨rfl, rfl⟩ := hEl.iAlt0
        refine oS lsF (oZ hK23 (c_seq fun _ hK29 => ?_)); refine cF ?_; refine c_exit ?_; refine x_then_exit (x_then_exit (x_block_exit (xZ hK21 (cR fun _ hK30 => ?_)))); refine oA (oZ hK30 (c_ret ?_)); refine x_block_ret (x_then_ret (?_))
        refine x_sub (Sub.refl _) (H' := ((K.obj q) :: K.tl q)) hzB ?_; exact xR rfl rfl (⟨q, rfl, rfl, hRq, hFq, rfl⟩)
      ·refine oS (eqF (h := o5)) ?_; refine oA (oZ hK19 ?_); refine cF (cR fun _ hK31 => ?_)
       by_cases o4 : x.op = 4
       ·obtain ⟨u, S2, hp, hE2⟩ := hE.iCat hx o4
        have hz1 := hz.gr hE2.mono
        have hpg := push_gr hp
        have hpg1 := hpg.fuel
        have hfn : FrOk K.sr (⟨up, at_, at_ + 1, x.kids.toNat, i, j⟩ : Frm) := ⟨x, ks, e0, hp0, hj, .inl ⟨o4, ks, _, hp0.head.2.1, by show ks.num = x.kids.toNat; omega⟩⟩
        refine oS (eqT (h := o4)) ?_; refine oA (oZ hK31 ?_); refine cT (c_seq fun _ hK32 => ?_); refine c_drawE ([(b6, .cells [.int .i64 (i : Nat), .int .i64 (j : Nat)].toArray 45 (0, 0))]) (fun i => false) ?_; refine eP 0 rfl sM ?_; refine eP 1 rfl sM ?_; refine eP 2 rfl sM ?_; refine eP 3 rfl sM ?_; refine eP 4 rfl sM ?_; refine eP 5 rfl (step_cast (v' := .int .i64 (((at_ + 1) : Nat) : Int)) (s_add rfl rfl (by omega)) (congrArg _ (by omega))) ?_; refine eP 6 rfl sM ?_; refine eP 7 rfl sN ?_; refine eP 8 rfl sF ?_; refine eK 9 rfl (step_cast (v' := .int .i64 ((x.kids.toNat : Nat) : Int)) (s_ld rfl ((RdK.old hw.d1 hw.a1).ld at_ 8 hx rfl (by decide) (by omega))) (congrArg _ (by omega))) ?_; refine eK 10 rfl (s_ldB rfl (RdPK.cels (.own meA)) lnA) ?_; refine eP 11 rfl (s_build (cs := [_, _, _, _, _, _]) (vs := [_, _, _, _, _]) rfl rfl (.cons rfl rfl rfl rfl rfl (.cons rfl rfl rfl rfl rfl (.cons rfl rfl rfl rfl rfl (.cons rfl rfl rfl rfl rfl (.cons rfl rfl rfl rfl rfl (.nil))))))) ?_; refine eP 13 rfl sF ?_; refine eK 14 rfl sL (eO 12 rfl ?_); refine o_call (pushB_fn K ({ s with S := s.S.tick } : BkS) RST FST (⟨up, at_, at_ + 1, x.kids.toNat, i, j⟩ : Frm) hfn hup u S2 hp hz1) rfl rfl rfl pkA (fun _ _ => trivial) (fun v179 S179 ⟨s1, hv179, hS179, hR1, hF1, he1, hu1, hu2⟩ => ?_); subst hv179
        subst hS179; refine oX (eO 15 rfl ?_); refine o_call (hnx u s1 i b S' hR1 hF1 hu2 (by omega) (by rw [he1]; exact hE2) (by rw [he1]; exact Nat.le_trans hpg1 hnt) hz) rfl rfl rfl pkA (fun w st => hw.out st (hin_cons meA (hin_cons meA (hin_cons meA (hin_cons meA (hin_app hiA hiA)))))) (fun v182 S182 ⟨s2, hv182, hS182, hR2, hF2, he2⟩ => ?_); subst hv182
        subst hS182; refine oX (eO 16 rfl (oA (oX (eZ hK32 (c_ret ?_))))); refine x_block_ret (x_then_ret (?_))
        refine x_sub (Sub.refl _) (H' := ((K.obj s2) :: K.tl s2)) hzB ?_; exact xR rfl rfl (⟨s2, rfl, rfl, hR2, hF2, he2⟩)
       ·refine oS (eqF (h := o4)) ?_; refine oA (oZ hK31 ?_); refine cF (cR fun _ hK33 => ?_)
        by_cases o6 : x.op = 6
        ·obtain ⟨u, S2, hp, hE2⟩ := hE.iRep hx o6
         have hz1 := hz.gr hE2.mono
         have hpg := push_gr hp
         have hpg1 := hpg.fuel
         have hfn : FrOk K.sr (⟨up, at_, 0, 0, 0, j⟩ : Frm) := ⟨x, ks, e0, hp0, hj, .inr (.inl ⟨o6, Nat.zero_le _⟩)⟩
         refine oS (eqT (h := o6)) ?_; refine oA (oZ hK33 ?_); refine cT (c_seq fun _ hK34 => ?_); refine c_drawE ([(b6, .cells [.int .i64 (i : Nat), .int .i64 (j : Nat)].toArray 45 (0, 0))]) (fun i => false) ?_; refine eP 0 rfl sM ?_; refine eP 1 rfl sM ?_; refine eP 2 rfl sM ?_; refine eP 3 rfl sM ?_; refine eP 4 rfl sF ?_; refine eK 5 rfl sL ?_; refine eP 6 rfl (s_build (cs := [_, _]) (vs := [_]) rfl rfl (.cons rfl rfl rfl rfl rfl (.nil))) ?_; refine eP 7 rfl (s_build (cs := [_, _, _, _, _, _]) (vs := [_, _, _]) rfl rfl (.cons rfl rfl rfl rfl rfl (.cons rfl rfl rfl rfl rfl (.cons rfl rfl rfl rfl rfl (.nil))))) ?_; refine eP 9 rfl sF ?_; refine eK 10 rfl sL (eO 8 rfl ?_); refine o_call (pushB_fn K ({ s with S := s.S.tick } : BkS) RST FST (⟨up, at_, 0, 0, 0, j⟩ : Frm) hfn hup u S2 hp hz1) rfl rfl rfl pkA (fun _ _ => trivial) (fun v193 S193 ⟨s1, hv193, hS193, hR1, hF1, he1, hu1, hu2⟩ => ?_); subst hv193
         subst hS193; refine oX (eO 11 rfl ?_); refine o_call (hnx u s1 i b S' hR1 hF1 hu2 (by omega) (by rw [he1]; exact hE2) (by rw [he1]; exact Nat.le_trans hpg1 hnt) hz) rfl rfl rfl pkA (fun w st => hw.out st (hin_cons meA (hin_cons meA (hin_cons meA (hin_cons meA (hin_app hiA hiA)))))) (fun v196 S196 ⟨s2, hv196, hS196, hR2, hF2, he2⟩ => ?_); subst hv196
         subst hS196; refine oX (eO 12 rfl (oA (oX (eZ hK34 (c_ret ?_))))); refine x_block_ret (x_then_ret (?_))
         refine x_sub (Sub.refl _) (H' := ((K.obj s2) :: K.tl s2)) hzB ?_; exact xR rfl rfl (⟨s2, rfl, rfl, hR2, hF2, he2⟩)
        ·have o7 : x.op = 7 := by omega
         obtain ⟨y, js, rfl⟩ := one_kid hp0.wf (.inr o7)
         have hkl := (List.getElem?_eq_some_iff.1 hp0.head.2.1.head.1).1
         obtain ⟨u, S2, S3, hp, hT, hS3⟩ := hE.iGrp hx o7
         rw [hbh] at hp hS3
         have hz3 : Sz S3 := by rw [hS3] at hz; cases b <;> first | exact hz | exact ⟨hz.1, hz.2⟩
         have hz1 := hz3.gr hT.mono
         have hTm := hT.mono
         have hT1 := hTm.fuel
         have hpg := push_gr hp
         have hpg1 := hpg.fuel
         have hfn : FrOk K.sr (⟨up, at_, 0, 0, i, j⟩ : Frm) := ⟨x, _, e0, hp0, hj, .inr (.inr ⟨o7, hij⟩)⟩
         refine oS (eqF (h := o6)) ?_; refine oA (oZ hK33 ?_); refine cF (c_skip (x_block (xZ hK8 (cR fun _ hK35 => ?_)))); refine oM (oM ?_); refine oS (step_cast (v' := .int .i64 (((at_ + 1) : Nat) : Int)) (s_add rfl rfl (by omega)) (congrArg _ (by omega))) ?_; refine oM ?_; refine oS sN ?_; refine oS sF ?_; refine oS sL (oM ?_); refine oS (s_idx rfl rfl hsb (by omega)) ?_; refine oS (s_ld rfl ((RdK.old hw.d3 hw.a3).ld at_ 0 hbl rfl (by decide) (by omega))) ?_; refine o_call (emptiedB_fn K ({ s with S := s.S.tick } : BkS) hrl RST.sp RST.cl hK.N hK.g7 (at_ + 1) (at_ + 1 + (F.nd y js .nil).size) (by omega) hble) rfl rfl rfl ((Pick.takeC pkA pkA)) (fun w st => hw.out st (hin_cons meA hiA)) (fun v207 S207 ⟨la, lc, Sl, Ss207, hv207, hS207, hOl, hO207⟩ => ?_)
         subst hv207; subst hS207
         refine oA (oZ hK35 (c_seq fun _ hK36 => ?_)); refine c_seq fun _ hK37 => ?_; refine c_drawE ([(b6, .cells [.int .i64 (i : Nat), .int .i64 (j : Nat)].toArray 45 (0, 0))]) (fun i => false) ?_; refine eP 0 rfl sM ?_; refine eP 1 rfl sM ?_; refine eP 2 rfl (step_cast (v' := .int .i64 (((at_ + 1) : Nat) : Int)) (s_add rfl rfl (by omega)) (congrArg _ (by omega))) ?_; refine eK 3 rfl (s_ldB rfl (RdPK.cels (.own meA)) lnA) ?_; refine eP 4 rfl sM ?_; refine eP 5 rfl sM ?_; refine eP 6 rfl sM ?_; refine eK 7 rfl (s_ldB rfl (RdPK.cels (.own meA)) lnA) ?_; refine eP 8 rfl (s_build (cs := [_, _, _, _, _, _]) (vs := [_, _, _]) rfl rfl (.cons rfl rfl rfl rfl rfl (.cons rfl rfl rfl rfl rfl (.cons rfl rfl rfl rfl rfl (.nil))))) ?_; refine eO 9 rfl ?_; refine o_call (pushB_fn K ({ s with S := { s.S.tick with cs := fgt (K.sr.inn (at_ + 1) (at_ + 1 + (F.nd y js .nil).size)) s.S.cs }, Ss := Ss207 } : BkS) ⟨hR.fr, hO207, by dsimp only; rw [fgt_len]; exact hR.cl, hR.en, hR.et, hR.el, hR.ef⟩ (FST.fgt _) (⟨up, at_, 0, 0, i, j⟩ : Frm) hfn hup u S2 hp hz1) rfl rfl rfl ((Pick.takeC pkA (Pick.takeC pkA (Pick.takeC pkA (Pick.takeC pkA pkA))))) (fun _ _ => trivial) (fun v217 S217 ⟨s1, hv217, hS217, hR1, hF1, he1, hu1, hu2⟩ => ?_); subst hv217
         subst hS217; refine oX (eO 10 rfl ?_); refine o_call (hTk s1 (at_ + 1) i j u b S3 hR1 hF1 hkl hij hj hu2 (by rw [he1]; exact hT) (by rw [he1]; exact Nat.le_trans hpg1 hnt) hz3) rfl rfl rfl pkA (fun w st => hw.out st (hin_cons meA (hin_cons meA (hin_cons meA (hin_cons meA (hin_app hiA hiA)))))) (fun v218 S218 ⟨s2, hv218, hS218, hR2, hF2, he2⟩ => ?_); subst hv218
         subst hS218
         cases b
         ·subst he2; refine oX (eZ hK37 ?_); refine cFZ hK36 (cR fun _ hK38 => ?_); refine oM (oM ?_); refine oS (step_cast (v' := .int .i64 (((at_ + 1) : Nat) : Int)) (s_add rfl rfl (by omega)) (congrArg _ (by omega))) ?_; refine oM ?_; refine oS sN ?_; refine oS sF ?_; refine oS sL (oM ?_); refine oS (s_idx rfl rfl hsb (by omega)) ?_; refine oS (s_ld rfl ((RdK.old hw.d3 hw.a3).ld at_ 0 hbl rfl (by decide) (by omega))) ?_; refine oM ?_; refine o_call (restoreB_fn K s2 hrl hR2.sp hR2.cl hK.N hK.g7 (at_ + 1) (at_ + 1 + (F.nd y js .nil).size) (by omega) hble la lc (emW (K.sr.inn (at_ + 1) (at_ + 1 + (F.nd y js .nil).size)) s.S.cs) Sl hOl (emW_len _ _)) rfl rfl rfl ((Pick.takeA pkA (Pick.takeC pkA pkA))) (fun w st => hw.out st (hin_app hiA (hin_cons meA hiA))) (fun v230 S230 ⟨Ss230, hS230, hO230⟩ => ?_)
          subst hS230; refine oZ hK38 (cR fun _ hK39 => ?_); refine oA (oZ hK39 (c_ret ?_)); refine ?_; refine x_sub (Sub.refl _) (H' := ((K.obj ({ s2 with S := { s2.S with cs := rst (K.sr.inn (at_ + 1) (at_ + 1 + (F.nd y js .nil).size)) (emW (K.sr.inn (at_ + 1) (at_ + 1 + (F.nd y js .nil).size)) s.S.cs) s2.S.cs }, Ss := Ss230 } : BkS)) :: K.tl ({ s2 with S := { s2.S with cs := rst (K.sr.inn (at_ + 1) (at_ + 1 + (F.nd y js .nil).size)) (emW (K.sr.inn (at_ + 1) (at_ + 1 + (F.nd y js .nil).size)) s.S.cs) s2.S.cs }, Ss := Ss230 } : BkS))) hzB ?_
          exact xR rfl rfl (⟨{ s2 with S := { s2.S with cs := rst (K.sr.inn (at_ + 1) (at_ + 1 + (F.nd y js .nil).size)) (emW (K.sr.inn (at_ + 1) (at_ + 1 + (F.nd y js .nil).size)) s.S.cs) s2.S.cs }, Ss := Ss230 }, rfl, rfl, ⟨hR2.fr, hO230, by dsimp only; rw [rst_len]; exact hR2.cl, hR2.en, hR2.et, hR2.el, hR2.ef⟩, hF2.rst _ (fun z hz1 => emW_ok (.inl rfl) _ _ hF.sp z hz1), by rw [hS3]; rfl⟩)
         ·subst he2; refine oX (eZ hK37 ?_); refine cT (cR fun _ hK40 => ?_); refine oA (oZ hK40 (c_ret ?_)); refine x_then_ret (?_); refine x_sub (Sub.refl _) (H' := ((K.obj s2) :: K.tl s2)) hzB ?_; exact xR rfl rfl (⟨s2, rfl, rfl, hR2, hF2, by rw [hS3]; rfl⟩)
theorem rowB_of {K : BkE} (hK : K.ok) {n v : Nat} (hN : NextB K n v) (hT : TakeB K n) : RowB K n v := fun s f x at_ b S' hR hF hf hx h4 hup hv hat hE hn hz => by
  subst hup
  exact rowK_fn K hK n s f x at_ b S' hR hF hf hx h4 hv hat hE hn hz hN hT
theorem rndB_of {K : BkE} (hK : K.ok) {n v : Nat} (hN : NextB K n v) (hT : TakeB K n) : RndB K n v := fun s f x at_ b S' hR hF hf hx h4 hup hv hat hE hn hz => by
  subst hup
  exact roundsK_fn K hK n s f x at_ b S' hR hF hf hx h4 hv hat hE hn hz hN hT
theorem nextB_of {K : BkE} (hK : K.ok) {n : Nat} (hT : TakeB K n) (u : Nat) : NextB K n u := by
  induction u using Nat.strongRecOn with
  | ind u ih =>
    intro s at_ b S' hR hF hu hat hE hn hz
    exact nextK_fn K hK n s u at_ b S' hR hF hu hat hE hn hz (fun v hv => rowB_of hK (ih v hv) hT) (fun v hv => rndB_of hK (ih v hv) hT) fun v hv => ih v hv
theorem takeB_all {K : BkE} (hK : K.ok) : ∀ n, n ≤ 9223372036854775807 → TakeB K n
  | 0, _ => fun s at_ i j up b S' hR hF hat hij hj hup hE hn hz => absurd hE.iFuel (by omega)
  | n + 1, hn => fun s at_ i j up b S' hR hF hat hij hj hup hE hf hz => takeK_fn K hK n s at_ i j up b S' hR hF hat hij hj hup hE hf (by omega) hz (nextB_of hK (takeB_all hK n (by omega))) (takeB_all hK n (by omega))
end Go.Proofs.YtloepfcndglmmaaDoor
namespace Go.HL.Kl.Mc
open Go Go.HL Go.HL.Kl AskE
theorem Ct.mono' {n : Nat} {q : TQ} {Z : List Caps} {k : Nat} (h : Ct n q Z k) : ∀ {Z' : List Caps} {k' : Nat}, (∀ d ∈ Z, d ∈ Z') → k ≤ k' → Ct n q Z' k' := by
  induction h with
  | leaf ho hz0 hk0 => exact fun hz hk => .leaf ho (fun h => hz _ (hz0 h)) (by omega)
  | cat ho h hk0 ih => exact fun hz hk => .cat ho (ih hz (Nat.le_refl _)) (by omega)
  | rep ho h hk0 ih => exact fun hz hk => .rep ho (ih hz (Nat.le_refl _)) (by omega)
  | grp ho h hz0 hk0 ih => exact fun hz hk => .grp ho h (fun d hd => hz _ (hz0 d hd)) (by omega)
  | altC ho h hk0 ih => exact fun hz hk => .altC ho (ih hz (Nat.le_refl _)) (by omega)
  | altNil => exact fun _ _ => .altNil
  | altCons h1 h2 z1 z2 hk0 => exact fun hz hk => .altCons h1 h2 (fun d hd => hz _ (z1 d hd)) (fun d hd => hz _ (z2 d hd)) (by omega)
  | rowNil hz0 => exact fun hz _ => .rowNil fun h => hz _ (hz0 h)
  | rowCons hes h1 h2 hz0 hk0 => exact fun hz hk => .rowCons hes h1 h2 (fun e he c1 hc1 d hd => hz _ (hz0 e he c1 hc1 d hd)) (by omega)
  | rnd hes h1 h2 hz0 hz2 hk0 => exact fun hz hk => .rnd hes h1 h2 (fun e he c1 hc1 d hd => hz _ (hz0 e he c1 hc1 d hd)) (fun a b => hz _ (hz2 a b)) (by omega)
theorem Ct.mono {n : Nat} {q : TQ} {Z Z' : List Caps} {k k' : Nat} (h : Ct n q Z k) (hz : ∀ d ∈ Z, d ∈ Z') (hk : k ≤ k') : Ct n q Z' k' := h.mono' hz hk
def IAcc (PR : Caps → List Caps → Nat → Prop) (dn : List Caps) (Z : List Caps) (T : Int) : Prop := ∃ (R : Caps → List Caps) (kR : Caps → Nat), (∀ c1 ∈ dn, PR c1 (R c1) (kR c1)) ∧ (∀ c1 ∈ dn, ∀ d ∈ R c1, d ∈ Z) ∧ (((dn.map fun c => kR c + 1).sum : Nat) : Int) ≤ 3 * T
theorem IAcc.nil {PR : Caps → List Caps → Nat → Prop} {Z : List Caps} {T : Int} (h : 0 ≤ T) : IAcc PR [] Z T := ⟨fun _ => [], fun _ => 0, fun c h => (by cases h), fun c h => (by cases h), by simp; omega⟩
theorem IAcc.mono {PR : Caps → List Caps → Nat → Prop} {dn Z Z' : List Caps} {T T' : Int} (h : IAcc PR dn Z T) (hz : ∀ d ∈ Z, d ∈ Z') (ht : T ≤ T') : IAcc PR dn Z' T' := by
  obtain ⟨R, kR, h1, h2, h3⟩ := h
  exact ⟨R, kR, h1, fun c hc d hd => hz _ (h2 c hc d hd), by omega⟩
theorem IAcc.snoc {PR : Caps → List Caps → Nat → Prop} {dn Z : List Caps} {T t : Int} (h : IAcc PR dn Z T) {c1 : Caps} {R1 : List Caps} {k1 : Nat} (hp : PR c1 R1 k1) (hz : ∀ d ∈ R1, d ∈ Z) (hk : (k1 : Int) + 1 ≤ 3 * t) : IAcc PR (dn ++ [c1]) Z (T + t) := by
  obtain ⟨R, kR, h1, h2, h3⟩ := h
  by_cases hm : c1 ∈ dn ∧ kR c1 ≤ k1
  · refine ⟨R, kR, fun c hc => ?_, fun c hc => ?_, ?_⟩
    · rcases List.mem_append.1 hc with hc | hc
      · exact h1 c hc
      · obtain rfl := List.mem_singleton.1 hc; exact h1 _ hm.1
    · rcases List.mem_append.1 hc with hc | hc
      · exact h2 c hc
      · obtain rfl := List.mem_singleton.1 hc; exact h2 _ hm.1
    · rw [List.map_append, List.sum_append]
      simp only [List.map_cons, List.map_nil, List.sum_cons, List.sum_nil]
      omega
  · refine ⟨fun c => if c = c1 then R1 else R c, fun c => if c = c1 then k1 else kR c, fun c hc => ?_, fun c hc => ?_, ?_⟩
    · by_cases e : c = c1
      · subst e; simp only [if_true]; exact hp
      · simp only [if_neg e]
        exact h1 c ((List.mem_append.1 hc).resolve_right fun h => e (List.mem_singleton.1 h))
    · by_cases e : c = c1
      · subst e; simp only [if_true]; exact hz
      · simp only [if_neg e]
        exact h2 c ((List.mem_append.1 hc).resolve_right fun h => e (List.mem_singleton.1 h))
    · rw [List.map_append, List.sum_append]
      simp only [List.map_cons, List.map_nil, List.sum_cons, List.sum_nil, if_true]
      have hs : (dn.map fun c => (if c = c1 then k1 else kR c) + 1).sum ≤ (dn.map fun c => kR c + 1).sum := sum_le fun c hc => by
        by_cases e : c = c1
        · subst e
          rw [if_pos rfl]
          have : ¬ kR c ≤ k1 := fun h => hm ⟨hc, h⟩
          omega
        · rw [if_neg e]; exact Nat.le_refl _
      omega
def GAcc (PN : Nat → List Caps → Nat → Prop) (PR : Nat → Caps → List Caps → Nat → Prop) (es : List Nat) (Z : List Caps) (T : Int) : Prop :=
  ∃ (L : Nat → List Caps) (kN : Nat → Nat) (R : Nat → Caps → List Caps) (kR : Nat → Caps → Nat), (∀ e, e ∈ es → PN e (L e) (kN e)) ∧ (∀ e, e ∈ es → ∀ c1, c1 ∈ L e → PR e c1 (R e c1) (kR e c1)) ∧ (∀ e, e ∈ es → ∀ c1, c1 ∈ L e → ∀ d, d ∈ R e c1 → d ∈ Z) ∧ ((sumW es L kN kR : Nat) : Int) + es.length ≤ 3 * T
theorem GAcc.nil {PN : Nat → List Caps → Nat → Prop} {PR : Nat → Caps → List Caps → Nat → Prop} {Z : List Caps} {T : Int} (h : 0 ≤ T) : GAcc PN PR [] Z T := ⟨fun _ => [], fun _ => 0, fun _ _ => [], fun _ _ => 0, fun e h => (by cases h), fun e h => (by cases h), fun e h => (by cases h), by simp [sumW]; omega⟩
theorem GAcc.mono {PN : Nat → List Caps → Nat → Prop} {PR : Nat → Caps → List Caps → Nat → Prop} {es : List Nat} {Z Z' : List Caps} {T T' : Int} (h : GAcc PN PR es Z T) (hz : ∀ d ∈ Z, d ∈ Z') (ht : T ≤ T') : GAcc PN PR es Z' T' := by
  obtain ⟨L, kN, R, kR, h1, h2, h3, h4⟩ := h
  exact ⟨L, kN, R, kR, h1, h2, fun e he c hc d hd => hz _ (h3 e he c hc d hd), by omega⟩
theorem sumW_app {L : Nat → List Caps} {kN : Nat → Nat} {kR : Nat → Caps → Nat} {es : List Nat} {e : Nat} : sumW (es ++ [e]) L kN kR = sumW es L kN kR + (kN e + ((L e).map fun c1 => kR e c1 + 1).sum) := by
  simp [sumW, List.map_append, List.sum_append]
theorem sumW_congr {L L' : Nat → List Caps} {kN kN' : Nat → Nat} {kR kR' : Nat → Caps → Nat} {es : List Nat} (h : ∀ e ∈ es, L e = L' e ∧ kN e = kN' e ∧ kR e = kR' e) : sumW es L kN kR = sumW es L' kN' kR' := by
  unfold sumW
  congr 1
  apply List.map_congr_left
  intro e he
  obtain ⟨a, b, c⟩ := h e he
  rw [a, b, c]
theorem GAcc.snoc {PN : Nat → List Caps → Nat → Prop} {PR : Nat → Caps → List Caps → Nat → Prop} {es : List Nat} {Z : List Caps} {T t T2 : Int} (h : GAcc PN PR es Z T) {e : Nat} (he : e ∉ es) {L1 : List Caps} {k1 : Nat} (hn : PN e L1 k1) (hk : (k1 : Int) + 1 ≤ 3 * t) (hi : IAcc (PR e) L1 Z T2) : GAcc PN PR (es ++ [e]) Z (T + t + T2) := by
  obtain ⟨L, kN, R, kR, h1, h2, h3, h4⟩ := h
  obtain ⟨R1, kR1, i1, i2, i3⟩ := hi
  have ne : ∀ e' ∈ es, e' ≠ e := fun e' he' h => he (h ▸ he')
  refine ⟨fun a => if a = e then L1 else L a, fun a => if a = e then k1 else kN a, fun a => if a = e then R1 else R a, fun a => if a = e then kR1 else kR a, fun a ha => ?_, fun a ha => ?_, fun a ha => ?_, ?_⟩
  · by_cases ae : a = e
    · subst ae; simp only [if_true]; exact hn
    · simp only [if_neg ae]
      exact h1 a ((List.mem_append.1 ha).resolve_right fun h => ae (List.mem_singleton.1 h))
  · by_cases ae : a = e
    · subst ae; simp only [if_true]; exact i1
    · simp only [if_neg ae]
      exact h2 a ((List.mem_append.1 ha).resolve_right fun h => ae (List.mem_singleton.1 h))
  · by_cases ae : a = e
    · subst ae; simp only [if_true]; exact i2
    · simp only [if_neg ae]
      exact h3 a ((List.mem_append.1 ha).resolve_right fun h => ae (List.mem_singleton.1 h))
  · rw [sumW_app, sumW_congr (L' := L) (kN' := kN) (kR' := kR) fun a ha => ⟨if_neg (ne a ha), if_neg (ne a ha), if_neg (ne a ha)⟩]
    simp only [if_true, List.length_append, List.length_singleton]
    omega
theorem ends_snoc {e j : Nat} (h : e ≤ j) : ends e j = ends (e + 1) j ++ [e] := by
  have key : ∀ k e, down e (k + 1) = down (e + 1) k ++ [e] := by
    intro k
    induction k with
    | zero => intro e; simp [down]
    | succ k ih =>
      intro e
      rw [down, ih e, down, List.cons_append]
      congr 1
      omega
  unfold ends
  rw [show j + 1 - e = (j - e) + 1 by omega, key, show j + 1 - (e + 1) = j - e by omega]
theorem ends_out {e j : Nat} : e ∉ ends (e + 1) j := fun h => by have := mem_ends.1 h; omega
theorem ends_none {j : Nat} : ends (j + 1) j = [] := by unfold ends; rw [show j + 1 - (j + 1) = 0 by omega]; rfl
def RowC (n : Nat) (g : F) (i j : Nat) (c : Caps) (Z : List Caps) (t : Int) : Prop := ∃ k, Ct n (.row g i j c) Z k ∧ ((g = .nil ∧ k = 0 ∧ 0 ≤ t) ∨ (k : Int) + 1 ≤ 3 * t)
def NodeC' (n : Nat) (x : Nd) (ks : F) (i j : Nat) (c : Caps) (Z : List Caps) (t : Int) : Prop := ∃ k, Ct n (.node x ks i j c) Z k ∧ (k : Int) + 1 ≤ 3 * t
def RndC (n : Nat) (x y : Nd) (js : F) (had i j : Nat) (c : Caps) (Z : List Caps) (t : Int) : Prop := ∃ k, Ct n (.rnd x y js had i j c) Z k ∧ (k : Int) + 1 ≤ 3 * t
theorem RowC.nilE {n i : Nat} {c : Caps} {Z : List Caps} {t : Int} (ht : 0 ≤ t) (hc : c ∈ Z) {j : Nat} : RowC n .nil i j c Z t := ⟨0, .rowNil fun _ => hc, .inl ⟨rfl, rfl, ht⟩⟩
theorem RowC.nilN {n i j : Nat} {c : Caps} {Z : List Caps} {t : Int} (ht : 0 ≤ t) (h : i ≠ j) : RowC n .nil i j c Z t := ⟨0, .rowNil fun e => absurd e h, .inl ⟨rfl, rfl, ht⟩⟩
abbrev GRow (n : Nat) (y : Nd) (js r : F) (i j : Nat) (c : Caps) (es : List Nat) (Z : List Caps) (T : Int) : Prop := GAcc (fun e L k => Ct n (.node y js i e c) L k) (fun e c1 R k => Ct n (.row r e j c1) R k) es Z T
theorem RowC.cons {n : Nat} {y : Nd} {js r : F} {i j : Nat} {c : Caps} {es : List Nat} {Z : List Caps} {T : Int} (h : GRow n y js r i j c es Z T) (hes : es = if r.num = 0 then [j] else ends i j) (hij : i ≤ j) : RowC n (.nd y js r) i j c Z T := by
  obtain ⟨L, kN, R, kR, h1, h2, h3, h4⟩ := h
  refine ⟨_, .rowCons hes h1 h2 h3 (Nat.le_refl _), .inr ?_⟩
  have : 1 ≤ es.length := by
    rw [hes]
    split
    · simp
    · rw [ends_snoc hij]; simp
  omega
abbrev GRnd (n : Nat) (x y : Nd) (js : F) (had i j : Nat) (c : Caps) (es : List Nat) (Z : List Caps) (T : Int) : Prop := GAcc (fun e L k => Ct n (.node y js i e (emp (F.nd y js .nil).flat c)) L k) (fun e c1 R k => Ct n (.rnd x y js (had + 1) e j c1) R k) es Z T
theorem RndC.of {n : Nat} {x y : Nd} {js : F} {had i j : Nat} {c : Caps} {es : List Nat} {Z Z' : List Caps} {T t : Int} (h : GRnd n x y js had i j c es Z T) (hes : es = rEs x had i j) (hz : ∀ d ∈ Z, d ∈ Z') (hz2 : i = j → x.mn ≤ (had : Int) → c ∈ Z') (ht : T + 1 ≤ t) : RndC n x y js had i j c Z' t := by
  obtain ⟨L, kN, R, kR, h1, h2, h3, h4⟩ := h
  exact ⟨_, .rnd hes h1 h2 (fun e he c1 hc1 d hd => hz _ (h3 e he c1 hc1 d hd)) hz2 (Nat.le_refl _), by omega⟩
def AltPre (n : Nat) (ks g : F) (i j : Nat) (c : Caps) (Z : List Caps) (k : Nat) : Prop := ∀ Z2 k2, Ct n (.alt g i j c) Z2 k2 → ∀ Z', (∀ d ∈ Z, d ∈ Z') → (∀ d ∈ Z2, d ∈ Z') → Ct n (.alt ks i j c) Z' (k + k2)
theorem AltPre.start {n : Nat} {ks : F} {i j : Nat} {c : Caps} : AltPre n ks ks i j c [] 0 := fun Z2 k2 h Z' _ h2 => h.mono h2 (by omega)
theorem AltPre.step {n : Nat} {ks r js : F} {y : Nd} {i j : Nat} {c : Caps} {Z Z1 Z3 : List Caps} {k k1 : Nat} (h : AltPre n ks (.nd y js r) i j c Z k) (h1 : Ct n (.node y js i j c) Z1 k1) (a : ∀ d ∈ Z, d ∈ Z3) (b : ∀ d ∈ Z1, d ∈ Z3) : AltPre n ks r i j c Z3 (k + k1) := fun Z2 k2 h2 Z' c1 c2 => by
  have := h (Z1 ++ Z2) (k1 + k2) (.altCons h1 h2 (fun d hd => List.mem_append_left _ hd) (fun d hd => List.mem_append_right _ hd) (Nat.le_refl _)) Z' (fun d hd => c1 d (a d hd)) (fun d hd => by
    rcases List.mem_append.1 hd with hd | hd
    · exact c1 d (b d hd)
    · exact c2 d hd)
  exact this.mono (fun _ h => h) (by omega)
theorem AltPre.done {n : Nat} {ks : F} {i j : Nat} {c : Caps} {Z : List Caps} {k : Nat} (h : AltPre n ks .nil i j c Z k) : Ct n (.alt ks i j c) Z k := h [] 0 .altNil Z (fun _ h => h) (fun d hd => by cases hd)
/-! groups emptied, place by place -/
def empTo (re : List Nd) (a j : Nat) (c : Caps) : Caps := emp ((re.drop a).take (j - a)) c
theorem empTo_start {re : List Nd} {a j : Nat} {c : Caps} (h : j ≤ a) : empTo re a j c = c := by unfold empTo; rw [show j - a = 0 by omega]; rfl
theorem empTo_step {re : List Nd} {a j : Nat} {c : Caps} {x : Nd} (h : re[j]? = some x) (ha : a ≤ j) : empTo re a (j + 1) c = em1 (empTo re a j c) x := by
  have hj : (re.drop a)[j - a]? = some x := by rw [List.getElem?_drop, show a + (j - a) = j by omega]; exact h
  unfold empTo
  rw [show j + 1 - a = (j - a) + 1 by omega, List.take_add_one, hj]
  show emp ((re.drop a).take (j - a) ++ [x]) c = _
  unfold emp
  rw [List.foldl_append]; rfl
theorem empTo_part {re : List Nd} {f : F} {a e : Nat} {c : Caps} (h : Part re f a e) : empTo re a e c = emp f.flat c := by
  unfold empTo
  rw [h.flat, h.len, show a + f.size - a = f.flat.length by rw [F.flat_size]; omega, List.take_left]
end Go.HL.Kl.Mc
namespace Go.HL.Kl.Mc
open Go Go.HL Go.HL.Kl AskE
theorem ends_self {j : Nat} : ends j j = [j] := by rw [ends_snoc (Nat.le_refl j), ends_none]; rfl
theorem ends_fin {e : Int} {i j : Nat} {p : Prop} [Decidable p] (h1 : p → (e + 1).toNat = j) (h2 : ¬ p → (e + 1).toNat = i) : ends (e + 1).toNat j = if p then [j] else ends i j := by
  by_cases h : p
  · rw [if_pos h, h1 h, ends_self]
  · rw [if_neg h, h2 h]
theorem row_step {n : Nat} {r : F} {e j : Nat} {c1 : Caps} {Z : List Caps} {t t2 : Int} (h : RowC n r e j c1 Z t) (hr : r.num = 0 → e = j) (ht : t + Z.length ≤ t2) : ∃ k, Ct n (.row r e j c1) Z k ∧ (k : Int) + 1 ≤ 3 * t2 := by
  obtain ⟨k, h1, h2⟩ := h
  refine ⟨k, h1, ?_⟩
  rcases h2 with ⟨rfl, rfl, h3⟩ | h2
  · have he := hr rfl
    cases h1 with
    | rowNil hz =>
      have : 0 < Z.length := List.length_pos_of_mem (hz he)
      omega
  · omega
end Go.HL.Kl.Mc
namespace Go.HL.Kl.Mc
open Go Go.HL Go.HL.Kl AskE
theorem rEs_done {x : Nd} {had i j : Nat} {e : Int} (hij : i ≤ j) (h : (¬ (x.mx = -1 ∨ (had : Int) < x.mx) ∧ e = j) ∨ ((x.mx = -1 ∨ (had : Int) < x.mx) ∧ e = (i : Int) - 1 ∧ ¬ (x.mn ≤ (had : Int) ∧ 0 < had)) ∨ ((x.mx = -1 ∨ (had : Int) < x.mx) ∧ e = i ∧ x.mn ≤ (had : Int) ∧ 0 < had)) : ends (e + 1).toNat j = rEs x had i j := by
  unfold rEs
  rcases h with ⟨h1, h2⟩ | ⟨h1, h2, h3⟩ | ⟨h1, h2, h3⟩
  · rw [if_neg h1, show (e + 1).toNat = j + 1 by omega, ends_none]
  · rw [if_pos h1, show (e + 1).toNat = i by omega, List.filter_eq_self.2]
    intro a _
    simp only [decide_eq_true_eq]
    exact fun h => h3 h.2
  · rw [if_pos h1, show (e + 1).toNat = i + 1 by omega, ends_snoc hij, List.filter_append, List.filter_eq_self.2]
    · have : ([i].filter fun e => decide (¬ (e = i ∧ x.mn ≤ (had : Int) ∧ 0 < had))) = [] := by
        exact List.filter_cons_of_neg (fun h => of_decide_eq_true h ⟨rfl, h3⟩)
      rw [this, List.append_nil]
    · intro a ha
      have := mem_ends.1 ha
      simp only [decide_eq_true_eq]
      exact fun h => by omega
theorem GRnd.done {n : Nat} {x y : Nd} {js : F} {had i j : Nat} {c : Caps} {e : Int} {Z : List Caps} {T : Int} (h : GRnd n x y js had i j c (ends (e + 1).toNat j) Z T) (hij : i ≤ j) (hd : (¬ (x.mx = -1 ∨ (had : Int) < x.mx) ∧ e = j) ∨ ((x.mx = -1 ∨ (had : Int) < x.mx) ∧ e = (i : Int) - 1 ∧ ¬ (x.mn ≤ (had : Int) ∧ 0 < had)) ∨ ((x.mx = -1 ∨ (had : Int) < x.mx) ∧ e = i ∧ x.mn ≤ (had : Int) ∧ 0 < had)) : GRnd n x y js had i j c (rEs x had i j) Z T := by
  rw [← rEs_done hij hd]; exact h
end Go.HL.Kl.Mc
namespace Go.HL.Kl.Mc
open Go Go.HL Go.HL.Kl AskE
section
variable {n : Nat} {x : Nd} {c : Caps} {i j : Nat}
theorem gT1 (h : goodT n x c i j) (o : x.op = 1) : j = i + 1 := by
  rcases h with ⟨_, h⟩ | ⟨h, _⟩ | ⟨h, _⟩ | ⟨h, _⟩ <;> omega
theorem gT2 (h : goodT n x c i j) (o : x.op = 2) : i = 0 ∧ j = 0 := by
  rcases h with ⟨h, _⟩ | ⟨_, h⟩ | ⟨h, _⟩ | ⟨h, _⟩ <;> omega
theorem gT3 (h : goodT n x c i j) (o : x.op = 3) : i = n ∧ j = n := by
  rcases h with ⟨h, _⟩ | ⟨h, _⟩ | ⟨_, h⟩ | ⟨h, _⟩ <;> omega
theorem gT8 (h : goodT n x c i j) (o : x.op = 8) (hn : 1 ≤ x.n) {s : Sp} (hs : c[(x.n - 1).toNat]? = some s) : 0 ≤ s.fr ∧ s.to - s.fr = (j : Int) - i := by
  rcases h with ⟨h, _⟩ | ⟨h, _⟩ | ⟨h, _⟩ | ⟨_, h1, h2⟩
  · omega
  · omega
  · omega
  · rw [List.getD_eq_getElem?_getD, show x.n.toNat - 1 = (x.n - 1).toNat by omega, hs] at h1 h2
    exact ⟨h1, h2⟩
end
end Go.HL.Kl.Mc
