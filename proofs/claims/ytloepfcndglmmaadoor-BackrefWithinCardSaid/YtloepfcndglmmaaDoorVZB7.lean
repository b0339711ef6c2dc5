/- Part of the proofs over this seat: see the text that holds the theorem. Conditions: each theorem bears its own. -/
import Derived.Test.YtloepfcndglmmaaDoorVZB5Z
import Derived.Test.YtloepfcndglmmaaDoorBS6Z
namespace Go.Proofs.YtloepfcndglmmaaDoor
open Go Go.HL Go.Proofs Go.HL.Kl Go.HL.Kl.Mc Go.HL.Kl.Mc.AskE
theorem cels_sub {κ : Cx} {H : Hp} {b o : Nat} {l cs : List Value} (h : Cels κ H ⟨b, o, none⟩ l) (f : Nat) (hv : ∀ (j : Nat) u, cs[j]? = some u → l[f + j]? = some u) : Cels κ H ⟨b, o + f, none⟩ cs :=
  ⟨fun w st j u hu => by
    have := h.out w st (f + j) u (hv j u hu)
    rw [Addr.add_lit] at this ⊢
    rw [Nat.add_assoc]; exact this⟩
theorem good1 {K : SrE} {x : Nd} {cs : List Sp} {i j : Nat} (h : x.op = 1) : K.good x cs i j ↔ j = i + 1 ∧ ∃ b, K.w[i]? = some b ∧ x.set.getLsbD b.toNat = true :=
  ⟨fun hg => by rcases hg with h1 | h1 | h1 | h1 <;> first | exact h1.2 | omega, fun hg => .inl ⟨h, hg⟩⟩
theorem good2 {K : SrE} {x : Nd} {cs : List Sp} {i j : Nat} (h : x.op = 2) : K.good x cs i j ↔ j = 0 :=
  ⟨fun hg => by rcases hg with h1 | h1 | h1 | h1 <;> first | exact h1.2 | omega, fun hg => .inr (.inl ⟨h, hg⟩)⟩
theorem good3 {K : SrE} {x : Nd} {cs : List Sp} {i j : Nat} (h : x.op = 3) : K.good x cs i j ↔ i = K.w.length :=
  ⟨fun hg => by rcases hg with h1 | h1 | h1 | h1 <;> first | exact h1.2 | omega, fun hg => .inr (.inr (.inl ⟨h, hg⟩))⟩
theorem good8 {K : SrE} {x : Nd} {cs : List Sp} {i j : Nat} {old : Sp} (h : x.op = 8) (ho : cs[x.n.toNat]? = some old) (h0 : 0 ≤ old.fr) : K.good x cs i j ↔ old ≠ noS ∧ (K.w.drop old.fr.toNat).take (old.to.toNat - old.fr.toNat) = (K.w.drop i).take (j - i) := by
  have e : cs.getD x.n.toNat noS = old := by rw [List.getD_eq_getElem?_getD, ho]; rfl
  have e2 : (old.to - old.fr).toNat = old.to.toNat - old.fr.toNat := by omega
  constructor
  · intro hg
    rcases hg with h1 | h1 | h1 | h1
    · omega
    · omega
    · omega
    · rw [e, e2] at h1; exact h1.2
  · intro hg
    refine .inr (.inr (.inr ⟨h, ?_⟩))
    rw [e, e2]; exact hg
theorem good8n {K : SrE} {x : Nd} {cs : List Sp} {i j : Nat} (h : x.op = 8) (ho : cs[x.n.toNat]? = some noS) : ¬ K.good x cs i j := fun hg => by
  have e : cs.getD x.n.toNat noS = noS := by rw [List.getD_eq_getElem?_getD, ho]; rfl
  rcases hg with h1 | h1 | h1 | h1
  · omega
  · omega
  · omega
  · exact h1.2.1 e
set_option maxHeartbeats 8000000 in
theorem takeK_fn (K : BkE) (hK : K.ok) (n : Nat) (s : BkS) (at_ i j up : Nat) (b : Bool) (S' : SS) (hR : K.Rep s) (hF : Fin K.sr s.S) (hat : at_ < K.re.length) (hij : i ≤ j) (hj : j ≤ K.w.length) (hup : up ≤ s.S.fs.length) (hE : Ev K.sr s.S (.take at_ i j up) b S') (hn : s.S.fuel ≤ n + 1) (hnb : n < 9223372036854775807) (hz : Sz S') (hnx : ∀ u, NextB K n u) (hTk : TakeB K n) : HL.Fn Tryd.prog 47 [pt K.b, .int .i64 at_, .agg [.int .i64 (i : Nat), .int .i64 (j : Nat)].toArray, .int .i64 up] (fun W => K.Env W (keys ((K.b, .cells [.slice K.ra K.re.length K.rc, .slice K.ta K.w.length K.tc, .slice K.ba K.bl.length K.bc, .slice K.xa K.R.length K.xc, .slice s.fa (zeroF :: s.S.fs).length s.fc, .map (some K.bn), .map (some K.bt), .map (some K.bf), .slice K.sa (K.N + 1) K.sc, .int .i64 (s.S.fuel : Nat), .bool false].toArray 103 (0, 0)) :: (K.bn, mxO EkF s.en s.cn) :: (K.bt, mxO EkT s.et s.ct) :: (K.bf, mxO EkP s.ef s.cf) :: (s.Sf ++ s.Ss)))) ((K.b, .cells [.slice K.ra K.re.length K.rc, .slice K.ta K.w.length K.tc, .slice K.ba K.bl.length K.bc, .slice K.xa K.R.length K.xc, .slice s.fa (zeroF :: s.S.fs).length s.fc, .map (some K.bn), .map (some K.bt), .map (some K.bf), .slice K.sa (K.N + 1) K.sc, .int .i64 (s.S.fuel : Nat), .bool false].toArray 103 (0, 0)) :: (K.bn, mxO EkF s.en s.cn) :: (K.bt, mxO EkT s.et s.ct) :: (K.bf, mxO EkP s.ef s.cf) :: (s.Sf ++ s.Ss)) (AnsB K (S') (b)) := by
  refine fn_of Tryd.func47 rfl rfl rfl fun w0 hw => ?_
  have hwl := hK.wl
  have hrl := hK.len
  have hsl := hw.d1.sl
  have hst := hw.d2.sl
  have hstc := hst.cap
  have hsb := hw.d3.sl
  have hbll := hK.bl.1
  have hfu := hE.iFuel
  have hsp := hR.sp.sl
  rw [hR.cl] at hsp
  have hcl := hR.cl
  have RST : K.Rep ({ s with S := s.S.tick } : BkS) := ⟨hR.fr, hR.sp, hR.cl, hR.en, hR.et, hR.el, hR.ef⟩
  have FST : Fin K.sr ({ s with S := s.S.tick } : BkS).S := ⟨hF.fr, hF.ch, hF.sp⟩
  have hnt : ({ s with S := s.S.tick } : BkS).S.fuel ≤ n := by show s.S.fuel - 1 ≤ n; omega
  obtain ⟨x, hx⟩ : ∃ x, K.re[at_]? = some x := ⟨_, List.getElem?_eq_getElem hat⟩
  have hxm := List.mem_of_getElem? hx
  obtain ⟨ks, e0, hp0⟩ := hK.at_ hx
  have hkn := hp0.wf.2.1
  have hop := op_rng (hK.rng hxm)
  obtain ⟨hbl, hbh, hble⟩ := hK.beh hp0
  have hksl := ks.num_le
  refine c_seq fun _ hK1 => ?_
  refine c_region ?_
  refine o_box rfl rfl rfl fun b6 => ?_
  refine o_step rfl (s_assign rfl) ?_
  refine o_nil ?_
  refine x_then (hK1 _ _ ?_)
  refine c_seq fun _ hK2 => ?_
  refine c_seq fun _ hK3 => ?_
  refine c_region ?_
  refine o_step rfl (s_move rfl) ?_
  refine o_step rfl (s_nil rfl) ?_
  refine o_step rfl (s_field rfl rfl (by decide)) ?_
  refine o_step rfl (s_ld rfl (.own meA rfl)) ?_
  refine o_step rfl (step_cast (v' := .bool false) (s_eql rfl rfl) (by rw [decide_eq_false (by omega)])) ?_
  refine o_nil ?_
  refine x_then (hK3 _ _ ?_)
  refine c_false rfl ?_
  refine c_skip ?_
  refine x_then (hK2 _ _ ?_)
  refine c_seq fun _ hK4 => ?_
  refine c_seq fun _ hK5 => ?_
  refine c_region ?_
  refine o_step rfl (s_move rfl) ?_
  refine o_step rfl (s_nil rfl) ?_
  refine o_step rfl (s_field rfl rfl (by decide)) ?_
  refine o_step rfl (s_ld rfl (.own meA rfl)) ?_
  refine o_nil ?_
  refine x_then (hK5 _ _ ?_)
  refine c_false rfl ?_
  refine c_skip ?_
  refine x_then (hK4 _ _ ?_)
  refine c_seq fun _ hK6 => ?_
  refine c_region ?_
  refine o_step rfl (s_move rfl) ?_
  refine o_step rfl (s_nil rfl) ?_
  refine o_step rfl (s_field rfl rfl (by decide)) ?_
  refine o_step rfl (s_ld rfl (.own meA rfl)) ?_
  refine o_step rfl (step_cast (v' := .int .i64 ((s.S.fuel - 1 : Nat) : Int)) (s_sub rfl rfl (by omega)) (congrArg _ (by omega))) ?_
  refine o_step rfl (s_nil rfl) ?_
  refine o_step rfl (s_field rfl rfl (by decide)) ?_
  refine o_store rfl rfl rfl upA ltA rfl ?_
  refine o_nil ?_
  refine x_then (hK6 _ _ ?_)
  refine c_seq fun _ hK7 => ?_
  refine c_region ?_
  refine o_step rfl (s_move rfl) ?_
  refine o_step rfl (s_nil rfl) ?_
  refine o_step rfl (s_field rfl rfl (by decide)) ?_
  refine o_step rfl (s_ld rfl (.own meA rfl)) ?_
  refine o_step rfl (s_move rfl) ?_
  refine o_step rfl (s_idx rfl rfl hsl (by omega)) ?_
  refine o_step rfl (s_assign rfl) ?_
  refine o_nil ?_
  refine x_then (hK7 _ _ ?_)
  refine c_seq fun _ hK8 => ?_
  refine c_seq fun _ hK9 => ?_
  refine c_region ?_
  refine o_step rfl (s_move rfl) ?_
  refine o_step rfl (s_nil rfl) ?_
  refine o_step rfl (s_field rfl rfl (by decide)) ?_
  refine o_step rfl (s_ld rfl ((RdK.old hw.d1 hw.a1).ld at_ 0 hx rfl (by decide) (by omega))) ?_
  refine o_nil ?_
  refine x_then (hK9 _ _ ?_)
  refine c_block ?_
  refine c_seq fun _ hK10 => ?_
  refine c_region ?_
  by_cases o1 : x.op = 1
  ·
   have hlf := hE.iLeaf hx (.inl o1)
   rw [good1 o1] at hlf
   refine o_step rfl (step_cast (v' := .bool true) (s_eql rfl rfl) (by rw [decide_eq_true o1])) ?_
   refine o_step rfl (s_assign rfl) ?_
   refine o_nil ?_
   refine x_then (hK10 _ _ ?_)
   refine c_true rfl ?_
   refine c_seq fun _ hK11 => ?_
   refine c_drawE ((b6, .cells [.int .i64 (i : Nat), .int .i64 (j : Nat)].toArray 45 (0, 0)) :: ((K.b, .cells [.slice K.ra K.re.length K.rc, .slice K.ta K.w.length K.tc, .slice K.ba K.bl.length K.bc, .slice K.xa K.R.length K.xc, .slice ({ s with S := s.S.tick } : BkS).fa (zeroF :: ({ s with S := s.S.tick } : BkS).S.fs).length ({ s with S := s.S.tick } : BkS).fc, .map (some K.bn), .map (some K.bt), .map (some K.bf), .slice K.sa (K.N + 1) K.sc, .int .i64 (({ s with S := s.S.tick } : BkS).S.fuel : Nat), .bool false].toArray 103 (0, 0)) :: (K.bn, mxO EkF ({ s with S := s.S.tick } : BkS).en ({ s with S := s.S.tick } : BkS).cn) :: (K.bt, mxO EkT ({ s with S := s.S.tick } : BkS).et ({ s with S := s.S.tick } : BkS).ct) :: (K.bf, mxO EkP ({ s with S := s.S.tick } : BkS).ef ({ s with S := s.S.tick } : BkS).cf) :: (({ s with S := s.S.tick } : BkS).Sf ++ ({ s with S := s.S.tick } : BkS).Ss))) (fun i => Nat.beq i 26 || Nat.beq i 27 || Nat.beq i 28) ?_
   refine e_pure 0 rfl (by kernel_rfl) (by kernel_rfl) (by kernel_rfl) rfl (s_field rfl rfl (by decide)) ?_
   refine e_takeT 1 rfl (by kernel_rfl) (by kernel_rfl) (by kernel_rfl) 40 (by kernel_rfl) (by kernel_rfl) (fun _ _ => rfl) rfl hzB (s_ld rfl (.own meA rfl)) ?_
   refine e_pure 2 rfl (by kernel_rfl) (by kernel_rfl) (by kernel_rfl) rfl (s_field rfl rfl (by decide)) ?_
   refine e_takeT 3 rfl (by kernel_rfl) (by kernel_rfl) (by kernel_rfl) 40 (by kernel_rfl) (by kernel_rfl) (fun _ _ => rfl) rfl hzB (s_ld rfl (.own meA rfl)) ?_
   refine e_pure 4 rfl (by kernel_rfl) (by kernel_rfl) (by kernel_rfl) rfl (s_add rfl rfl (by omega)) ?_
   by_cases hji : (j : Int) = (i : Int) + 1
   ·
    obtain ⟨c, hc⟩ : ∃ c, K.w[i]? = some c := ⟨_, List.getElem?_eq_getElem (by omega)⟩
    refine e_pure 5 rfl (by kernel_rfl) (by kernel_rfl) (by kernel_rfl) rfl (step_cast (v' := .bool true) (s_eql rfl rfl) (by rw [decide_eq_true (by omega)])) ?_
    refine e_pure 6 rfl (by kernel_rfl) (by kernel_rfl) (by kernel_rfl) rfl (s_move rfl) ?_
    refine e_takeT 7 rfl (by kernel_rfl) (by kernel_rfl) (by kernel_rfl) 40 (by kernel_rfl) (by kernel_rfl) (fun _ fr => by rw [wanted_of fr rfl rfl rfl]; rfl) rfl hzB (s_move rfl) ?_
    refine e_takeT 8 rfl (by kernel_rfl) (by kernel_rfl) (by kernel_rfl) 40 (by kernel_rfl) (by kernel_rfl) (fun _ fr => by rw [wanted_of fr rfl rfl rfl]; rfl) rfl hzB (s_nil rfl) ?_
    refine e_takeT 9 rfl (by kernel_rfl) (by kernel_rfl) (by kernel_rfl) 40 (by kernel_rfl) (by kernel_rfl) (fun _ fr => by rw [wanted_of fr rfl rfl rfl]; rfl) rfl hzB (s_field rfl rfl (by decide)) ?_
    refine e_takeT 10 rfl (by kernel_rfl) (by kernel_rfl) (by kernel_rfl) 40 (by kernel_rfl) (by kernel_rfl) (fun _ fr => by rw [wanted_of fr rfl rfl rfl]; rfl) rfl hzB (s_ldB rfl (cels_sub ((RdK.old hw.d1 hw.a1).lds at_ hx rfl) 1 nd_set) (Ec_lenM _)) ?_
    refine e_takeT 11 rfl (by kernel_rfl) (by kernel_rfl) (by kernel_rfl) 40 (by kernel_rfl) (by kernel_rfl) (fun _ fr => by rw [wanted_of fr rfl rfl rfl]; rfl) rfl hzB (s_move rfl) ?_
    refine e_takeT 12 rfl (by kernel_rfl) (by kernel_rfl) (by kernel_rfl) 40 (by kernel_rfl) (by kernel_rfl) (fun _ fr => by rw [wanted_of fr rfl rfl rfl]; rfl) rfl hzB (s_nil rfl) ?_
    refine e_takeT 13 rfl (by kernel_rfl) (by kernel_rfl) (by kernel_rfl) 40 (by kernel_rfl) (by kernel_rfl) (fun _ fr => by rw [wanted_of fr rfl rfl rfl]; rfl) rfl hzB (s_field rfl rfl (by decide)) ?_
    refine e_takeT 14 rfl (by kernel_rfl) (by kernel_rfl) (by kernel_rfl) 40 (by kernel_rfl) (by kernel_rfl) (fun _ fr => by rw [wanted_of fr rfl rfl rfl]; rfl) rfl hzB (s_ld rfl (.own meA rfl)) ?_
    refine e_takeT 15 rfl (by kernel_rfl) (by kernel_rfl) (by kernel_rfl) 40 (by kernel_rfl) (by kernel_rfl) (fun _ fr => by rw [wanted_of fr rfl rfl rfl]; rfl) rfl hzB (s_field rfl rfl (by decide)) ?_
    refine e_takeT 16 rfl (by kernel_rfl) (by kernel_rfl) (by kernel_rfl) 40 (by kernel_rfl) (by kernel_rfl) (fun _ fr => by rw [wanted_of fr rfl rfl rfl]; rfl) rfl hzB (s_ld rfl (.own meA rfl)) ?_
    refine e_takeT 17 rfl (by kernel_rfl) (by kernel_rfl) (by kernel_rfl) 40 (by kernel_rfl) (by kernel_rfl) (fun _ fr => by rw [wanted_of fr rfl rfl rfl]; rfl) rfl hzB (s_idx rfl rfl hst (by omega)) ?_
    refine e_takeT 18 rfl (by kernel_rfl) (by kernel_rfl) (by kernel_rfl) 40 (by kernel_rfl) (by kernel_rfl) (fun _ fr => by rw [wanted_of fr rfl rfl rfl]; rfl) rfl hzB (s_ld rfl ((RdK.old hw.d2 hw.a2).ld i 0 hc rfl (by decide) (by omega))) ?_
    refine e_one 19 rfl (by kernel_rfl) ?_
    refine o_yes rfl rfl ?_
    refine o_callP (has_fn x.set c.toNat c.toNat_lt) rfl rfl rfl (fun _ _ => trivial) (fun v63 hv63 => ?_)
    subst hv63
    cases hh : x.set.getLsbD c.toNat
    ·
     obtain ⟨_, rfl, rfl⟩ := hlf.resolve_right fun h => by obtain ⟨⟨_, c2, h1, h2⟩, _⟩ := h; have h1 : K.w[i]? = some c2 := h1; rw [hc] at h1; cases h1; rw [hh] at h2; cases h2
     refine o_nil ?_
     refine x_oneS hzB ?_
     refine e_pure 20 rfl (by kernel_rfl) (by kernel_rfl) (by kernel_rfl) rfl (s_pick_t rfl rfl) ?_
     refine e_pure 21 rfl (by kernel_rfl) (by kernel_rfl) (by kernel_rfl) rfl (s_move rfl) ?_
     refine e_skip 22 rfl (by kernel_rfl) (by kernel_rfl) (by kernel_rfl) rfl rfl rfl rfl ?_
     refine e_skip 23 rfl (by kernel_rfl) (by kernel_rfl) (by kernel_rfl) rfl rfl rfl rfl ?_
     refine e_skip 24 rfl (by kernel_rfl) (by kernel_rfl) (by kernel_rfl) rfl rfl rfl rfl ?_
     refine e_skip 25 rfl (by kernel_rfl) (by kernel_rfl) (by kernel_rfl) rfl rfl rfl rfl ?_
     refine e_one 26 rfl (by kernel_rfl) ?_
     refine o_no rfl rfl rfl rfl ?_
     refine o_nil ?_
     refine x_oneL rfl ?_
     refine e_one 27 rfl (by kernel_rfl) ?_
     refine o_step rfl (s_pick_f rfl rfl) ?_
     refine o_nil ?_
     refine x_oneL rfl ?_
     refine e_one 28 rfl (by kernel_rfl) ?_
     refine o_step rfl (s_assign rfl) ?_
     refine o_nil ?_
     refine x_oneL rfl ?_
     refine e_done (by kernel_rfl) ?_
     refine x_then (hK11 _ _ ?_)
     refine c_ret ?_
     refine x_block_ret (x_then_ret (?_))
     refine x_sub (Sub.refl _) (H' := ((K.b, .cells [.slice K.ra K.re.length K.rc, .slice K.ta K.w.length K.tc, .slice K.ba K.bl.length K.bc, .slice K.xa K.R.length K.xc, .slice ({ s with S := s.S.tick } : BkS).fa (zeroF :: ({ s with S := s.S.tick } : BkS).S.fs).length ({ s with S := s.S.tick } : BkS).fc, .map (some K.bn), .map (some K.bt), .map (some K.bf), .slice K.sa (K.N + 1) K.sc, .int .i64 (({ s with S := s.S.tick } : BkS).S.fuel : Nat), .bool false].toArray 103 (0, 0)) :: (K.bn, mxO EkF ({ s with S := s.S.tick } : BkS).en ({ s with S := s.S.tick } : BkS).cn) :: (K.bt, mxO EkT ({ s with S := s.S.tick } : BkS).et ({ s with S := s.S.tick } : BkS).ct) :: (K.bf, mxO EkP ({ s with S := s.S.tick } : BkS).ef ({ s with S := s.S.tick } : BkS).cf) :: (({ s with S := s.S.tick } : BkS).Sf ++ ({ s with S := s.S.tick } : BkS).Ss))) hzB ?_
     exact x_ret rfl (.tmp rfl (.nil)) (⟨({ s with S := s.S.tick } : BkS), rfl, rfl, RST, FST, rfl⟩)
    ·
     have hE2 := (hlf.resolve_left fun h => h.1 ⟨by omega, c, hc, hh⟩).2
     refine o_nil ?_
     refine x_oneS hzB ?_
     refine e_pure 20 rfl (by kernel_rfl) (by kernel_rfl) (by kernel_rfl) rfl (s_pick_t rfl rfl) ?_
     refine e_pure 21 rfl (by kernel_rfl) (by kernel_rfl) (by kernel_rfl) rfl (s_move rfl) ?_
     refine e_takeT 22 rfl (by kernel_rfl) (by kernel_rfl) (by kernel_rfl) 40 (by kernel_rfl) (by kernel_rfl) (fun _ fr => by rw [wanted_of fr rfl rfl rfl]; rfl) rfl hzB (s_move rfl) ?_
     refine e_takeT 23 rfl (by kernel_rfl) (by kernel_rfl) (by kernel_rfl) 40 (by kernel_rfl) (by kernel_rfl) (fun _ fr => by rw [wanted_of fr rfl rfl rfl]; rfl) rfl hzB (s_move rfl) ?_
     refine e_takeT 24 rfl (by kernel_rfl) (by kernel_rfl) (by kernel_rfl) 40 (by kernel_rfl) (by kernel_rfl) (fun _ fr => by rw [wanted_of fr rfl rfl rfl]; rfl) rfl hzB (s_field rfl rfl (by decide)) ?_
     refine e_takeT 25 rfl (by kernel_rfl) (by kernel_rfl) (by kernel_rfl) 40 (by kernel_rfl) (by kernel_rfl) (fun _ fr => by rw [wanted_of fr rfl rfl rfl]; rfl) rfl hzB (s_ld rfl (.own meA rfl)) ?_
     refine e_one 26 rfl (by kernel_rfl) ?_
     refine o_yes rfl rfl ?_
     refine o_call (hnx up ({ s with S := s.S.tick } : BkS) j b S' RST FST hup hj hE2 hnt hz) rfl rfl rfl pkA (fun w st => hw.out st (hin_cons meA (hin_cons meA (hin_cons meA (hin_cons meA (hin_app hiA hiA)))))) (fun v70 S70 ⟨s2, hv70, hS70, hR2, hF2, he2⟩ => ?_)
     subst hv70
     subst hS70
     refine o_nil ?_
     refine x_oneL rfl ?_
     refine e_one 27 rfl (by kernel_rfl) ?_
     refine o_step rfl (s_pick_t rfl rfl) ?_
     refine o_nil ?_
     refine x_oneL rfl ?_
     refine e_one 28 rfl (by kernel_rfl) ?_
     refine o_step rfl (s_assign rfl) ?_
     refine o_nil ?_
     refine x_oneL rfl ?_
     refine e_done (by kernel_rfl) ?_
     refine x_then (hK11 _ _ ?_)
     refine c_ret ?_
     refine x_block_ret (x_then_ret (?_))
     refine x_sub (Sub.refl _) (H' := ((K.b, .cells [.slice K.ra K.re.length K.rc, .slice K.ta K.w.length K.tc, .slice K.ba K.bl.length K.bc, .slice K.xa K.R.length K.xc, .slice s2.fa (zeroF :: s2.S.fs).length s2.fc, .map (some K.bn), .map (some K.bt), .map (some K.bf), .slice K.sa (K.N + 1) K.sc, .int .i64 (s2.S.fuel : Nat), .bool false].toArray 103 (0, 0)) :: (K.bn, mxO EkF s2.en s2.cn) :: (K.bt, mxO EkT s2.et s2.ct) :: (K.bf, mxO EkP s2.ef s2.cf) :: (s2.Sf ++ s2.Ss))) hzB ?_
     exact x_ret rfl (.tmp rfl (.nil)) (⟨s2, rfl, rfl, hR2, hF2, he2⟩)
   ·
    obtain ⟨_, rfl, rfl⟩ := hlf.resolve_right fun h => hji (by have := h.1.1; omega)
    refine e_pure 5 rfl (by kernel_rfl) (by kernel_rfl) (by kernel_rfl) rfl (step_cast (v' := .bool false) (s_eql rfl rfl) (by rw [decide_eq_false (by omega)])) ?_
    refine e_pure 6 rfl (by kernel_rfl) (by kernel_rfl) (by kernel_rfl) rfl (s_move rfl) ?_
    refine e_skip 7 rfl (by kernel_rfl) (by kernel_rfl) (by kernel_rfl) rfl rfl rfl rfl ?_
    refine e_skip 8 rfl (by kernel_rfl) (by kernel_rfl) (by kernel_rfl) rfl rfl rfl rfl ?_
    refine e_skip 9 rfl (by kernel_rfl) (by kernel_rfl) (by kernel_rfl) rfl rfl rfl rfl ?_
    refine e_skip 10 rfl (by kernel_rfl) (by kernel_rfl) (by kernel_rfl) rfl rfl rfl rfl ?_
    refine e_skip 11 rfl (by kernel_rfl) (by kernel_rfl) (by kernel_rfl) rfl rfl rfl rfl ?_
    refine e_skip 12 rfl (by kernel_rfl) (by kernel_rfl) (by kernel_rfl) rfl rfl rfl rfl ?_
    refine e_skip 13 rfl (by kernel_rfl) (by kernel_rfl) (by kernel_rfl) rfl rfl rfl rfl ?_
    refine e_skip 14 rfl (by kernel_rfl) (by kernel_rfl) (by kernel_rfl) rfl rfl rfl rfl ?_
    refine e_skip 15 rfl (by kernel_rfl) (by kernel_rfl) (by kernel_rfl) rfl rfl rfl rfl ?_
    refine e_skip 16 rfl (by kernel_rfl) (by kernel_rfl) (by kernel_rfl) rfl rfl rfl rfl ?_
    refine e_skip 17 rfl (by kernel_rfl) (by kernel_rfl) (by kernel_rfl) rfl rfl rfl rfl ?_
    refine e_skip 18 rfl (by kernel_rfl) (by kernel_rfl) (by kernel_rfl) rfl rfl rfl rfl ?_
    refine e_one 19 rfl (by kernel_rfl) ?_
    refine o_no rfl rfl rfl rfl ?_
    refine o_nil ?_
    refine x_oneS hzB ?_
    refine e_pure 20 rfl (by kernel_rfl) (by kernel_rfl) (by kernel_rfl) rfl (s_pick_f rfl rfl) ?_
    refine e_pure 21 rfl (by kernel_rfl) (by kernel_rfl) (by kernel_rfl) rfl (s_move rfl) ?_
    refine e_skip 22 rfl (by kernel_rfl) (by kernel_rfl) (by kernel_rfl) rfl rfl rfl rfl ?_
    refine e_skip 23 rfl (by kernel_rfl) (by kernel_rfl) (by kernel_rfl) rfl rfl rfl rfl ?_
    refine e_skip 24 rfl (by kernel_rfl) (by kernel_rfl) (by kernel_rfl) rfl rfl rfl rfl ?_
    refine e_skip 25 rfl (by kernel_rfl) (by kernel_rfl) (by kernel_rfl) rfl rfl rfl rfl ?_
    refine e_one 26 rfl (by kernel_rfl) ?_
    refine o_no rfl rfl rfl rfl ?_
    refine o_nil ?_
    refine x_oneL rfl ?_
    refine e_one 27 rfl (by kernel_rfl) ?_
    refine o_step rfl (s_pick_f rfl rfl) ?_
    refine o_nil ?_
    refine x_oneL rfl ?_
    refine e_one 28 rfl (by kernel_rfl) ?_
    refine o_step rfl (s_assign rfl) ?_
    refine o_nil ?_
    refine x_oneL rfl ?_
    refine e_done (by kernel_rfl) ?_
    refine x_then (hK11 _ _ ?_)
    refine c_ret ?_
    refine x_block_ret (x_then_ret (?_))
    refine x_sub (Sub.refl _) (H' := ((K.b, .cells [.slice K.ra K.re.length K.rc, .slice K.ta K.w.length K.tc, .slice K.ba K.bl.length K.bc, .slice K.xa K.R.length K.xc, .slice ({ s with S := s.S.tick } : BkS).fa (zeroF :: ({ s with S := s.S.tick } : BkS).S.fs).length ({ s with S := s.S.tick } : BkS).fc, .map (some K.bn), .map (some K.bt), .map (some K.bf), .slice K.sa (K.N + 1) K.sc, .int .i64 (({ s with S := s.S.tick } : BkS).S.fuel : Nat), .bool false].toArray 103 (0, 0)) :: (K.bn, mxO EkF ({ s with S := s.S.tick } : BkS).en ({ s with S := s.S.tick } : BkS).cn) :: (K.bt, mxO EkT ({ s with S := s.S.tick } : BkS).et ({ s with S := s.S.tick } : BkS).ct) :: (K.bf, mxO EkP ({ s with S := s.S.tick } : BkS).ef ({ s with S := s.S.tick } : BkS).cf) :: (({ s with S := s.S.tick } : BkS).Sf ++ ({ s with S := s.S.tick } : BkS).Ss))) hzB ?_
    exact x_ret rfl (.tmp rfl (.nil)) (⟨({ s with S := s.S.tick } : BkS), rfl, rfl, RST, FST, rfl⟩)
  ·
   refine o_step rfl (step_cast (v' := .bool false) (s_eql rfl rfl) (by rw [decide_eq_false o1])) ?_
   refine o_step rfl (s_assign rfl) ?_
   refine o_nil ?_
   refine x_then (hK10 _ _ ?_)
   refine c_false rfl ?_
   refine c_seq fun _ hK12 => ?_
   refine c_region ?_
   by_cases o2 : x.op = 2
   ·
    have hlf := hE.iLeaf hx (.inr (.inl o2))
    rw [good2 o2] at hlf
    refine o_step rfl (step_cast (v' := .bool true) (s_eql rfl rfl) (by rw [decide_eq_true o2])) ?_
    refine o_step rfl (s_assign rfl) ?_
    refine o_nil ?_
    refine x_then (hK12 _ _ ?_)
    refine c_true rfl ?_
    refine c_seq fun _ hK13 => ?_
    refine c_region ?_
    refine o_step rfl (s_field rfl rfl (by decide)) ?_
    refine o_step rfl (s_ld rfl (.own meA rfl)) ?_
    by_cases hj0 : (j : Int) = 0
    ·
     obtain rfl : j = 0 := by omega
     have hE2 := (hlf.resolve_left fun h => h.1 rfl).2
     refine o_step rfl (step_cast (v' := .bool true) (s_eql rfl rfl) (by rw [decide_eq_true (by omega)])) ?_
     refine o_step rfl (s_move rfl) ?_
     refine o_yes rfl rfl ?_
     refine o_step rfl (s_move rfl) ?_
     refine o_yes rfl rfl ?_
     refine o_step rfl (s_move rfl) ?_
     refine o_yes rfl rfl ?_
     refine o_call (hnx up ({ s with S := s.S.tick } : BkS) 0 b S' RST FST hup (Nat.zero_le _) hE2 hnt hz) rfl rfl rfl pkA (fun w st => hw.out st (hin_cons meA (hin_cons meA (hin_cons meA (hin_cons meA (hin_app hiA hiA)))))) (fun v80 S80 ⟨s2, hv80, hS80, hR2, hF2, he2⟩ => ?_)
     subst hv80
     subst hS80
     refine o_step rfl (s_pick_t rfl rfl) ?_
     refine o_step rfl (s_assign rfl) ?_
     refine o_nil ?_
     refine x_then (hK13 _ _ ?_)
     refine c_ret ?_
     refine x_block_ret (x_then_ret (?_))
     refine x_sub (Sub.refl _) (H' := ((K.b, .cells [.slice K.ra K.re.length K.rc, .slice K.ta K.w.length K.tc, .slice K.ba K.bl.length K.bc, .slice K.xa K.R.length K.xc, .slice s2.fa (zeroF :: s2.S.fs).length s2.fc, .map (some K.bn), .map (some K.bt), .map (some K.bf), .slice K.sa (K.N + 1) K.sc, .int .i64 (s2.S.fuel : Nat), .bool false].toArray 103 (0, 0)) :: (K.bn, mxO EkF s2.en s2.cn) :: (K.bt, mxO EkT s2.et s2.ct) :: (K.bf, mxO EkP s2.ef s2.cf) :: (s2.Sf ++ s2.Ss))) hzB ?_
     exact x_ret rfl (.tmp rfl (.nil)) (⟨s2, rfl, rfl, hR2, hF2, he2⟩)
    ·
     obtain ⟨_, rfl, rfl⟩ := hlf.resolve_right fun h => hj0 (by have := h.1; omega)
     refine o_step rfl (step_cast (v' := .bool false) (s_eql rfl rfl) (by rw [decide_eq_false (by omega)])) ?_
     refine o_step rfl (s_move rfl) ?_
     refine o_no rfl rfl rfl rfl ?_
     refine o_no rfl rfl rfl rfl ?_
     refine o_no rfl rfl rfl rfl ?_
     refine o_step rfl (s_pick_f rfl rfl) ?_
     refine o_step rfl (s_assign rfl) ?_
     refine o_nil ?_
     refine x_then (hK13 _ _ ?_)
     refine c_ret ?_
     refine x_block_ret (x_then_ret (?_))
     refine x_sub (Sub.refl _) (H' := ((K.b, .cells [.slice K.ra K.re.length K.rc, .slice K.ta K.w.length K.tc, .slice K.ba K.bl.length K.bc, .slice K.xa K.R.length K.xc, .slice ({ s with S := s.S.tick } : BkS).fa (zeroF :: ({ s with S := s.S.tick } : BkS).S.fs).length ({ s with S := s.S.tick } : BkS).fc, .map (some K.bn), .map (some K.bt), .map (some K.bf), .slice K.sa (K.N + 1) K.sc, .int .i64 (({ s with S := s.S.tick } : BkS).S.fuel : Nat), .bool false].toArray 103 (0, 0)) :: (K.bn, mxO EkF ({ s with S := s.S.tick } : BkS).en ({ s with S := s.S.tick } : BkS).cn) :: (K.bt, mxO EkT ({ s with S := s.S.tick } : BkS).et ({ s with S := s.S.tick } : BkS).ct) :: (K.bf, mxO EkP ({ s with S := s.S.tick } : BkS).ef ({ s with S := s.S.tick } : BkS).cf) :: (({ s with S := s.S.tick } : BkS).Sf ++ ({ s with S := s.S.tick } : BkS).Ss))) hzB ?_
     exact x_ret rfl (.tmp rfl (.nil)) (⟨({ s with S := s.S.tick } : BkS), rfl, rfl, RST, FST, rfl⟩)
   ·
    refine o_step rfl (step_cast (v' := .bool false) (s_eql rfl rfl) (by rw [decide_eq_false o2])) ?_
    refine o_step rfl (s_assign rfl) ?_
    refine o_nil ?_
    refine x_then (hK12 _ _ ?_)
    refine c_false rfl ?_
    refine c_seq fun _ hK14 => ?_
    refine c_region ?_
    by_cases o3 : x.op = 3
    ·
     have hlf := hE.iLeaf hx (.inr (.inr (.inl o3)))
     rw [good3 o3] at hlf
     refine o_step rfl (step_cast (v' := .bool true) (s_eql rfl rfl) (by rw [decide_eq_true o3])) ?_
     refine o_step rfl (s_assign rfl) ?_
     refine o_nil ?_
     refine x_then (hK14 _ _ ?_)
     refine c_true rfl ?_
     refine c_seq fun _ hK15 => ?_
     refine c_drawE ((b6, .cells [.int .i64 (i : Nat), .int .i64 (j : Nat)].toArray 45 (0, 0)) :: ((K.b, .cells [.slice K.ra K.re.length K.rc, .slice K.ta K.w.length K.tc, .slice K.ba K.bl.length K.bc, .slice K.xa K.R.length K.xc, .slice ({ s with S := s.S.tick } : BkS).fa (zeroF :: ({ s with S := s.S.tick } : BkS).S.fs).length ({ s with S := s.S.tick } : BkS).fc, .map (some K.bn), .map (some K.bt), .map (some K.bf), .slice K.sa (K.N + 1) K.sc, .int .i64 (({ s with S := s.S.tick } : BkS).S.fuel : Nat), .bool false].toArray 103 (0, 0)) :: (K.bn, mxO EkF ({ s with S := s.S.tick } : BkS).en ({ s with S := s.S.tick } : BkS).cn) :: (K.bt, mxO EkT ({ s with S := s.S.tick } : BkS).et ({ s with S := s.S.tick } : BkS).ct) :: (K.bf, mxO EkP ({ s with S := s.S.tick } : BkS).ef ({ s with S := s.S.tick } : BkS).cf) :: (({ s with S := s.S.tick } : BkS).Sf ++ ({ s with S := s.S.tick } : BkS).Ss))) (fun i => Nat.beq i 13 || Nat.beq i 14 || Nat.beq i 15) ?_
     refine e_pure 0 rfl (by kernel_rfl) (by kernel_rfl) (by kernel_rfl) rfl (s_field rfl rfl (by decide)) ?_
     refine e_takeT 1 rfl (by kernel_rfl) (by kernel_rfl) (by kernel_rfl) 40 (by kernel_rfl) (by kernel_rfl) (fun _ _ => rfl) rfl hzB (s_ld rfl (.own meA rfl)) ?_
     refine e_pure 2 rfl (by kernel_rfl) (by kernel_rfl) (by kernel_rfl) rfl (s_move rfl) ?_
     refine e_pure 3 rfl (by kernel_rfl) (by kernel_rfl) (by kernel_rfl) rfl (s_nil rfl) ?_
     refine e_pure 4 rfl (by kernel_rfl) (by kernel_rfl) (by kernel_rfl) rfl (s_field rfl rfl (by decide)) ?_
     refine e_takeT 5 rfl (by kernel_rfl) (by kernel_rfl) (by kernel_rfl) 40 (by kernel_rfl) (by kernel_rfl) (fun _ _ => rfl) rfl hzB (s_ld rfl (.own meA rfl)) ?_
     refine e_pure 6 rfl (by kernel_rfl) (by kernel_rfl) (by kernel_rfl) rfl (s_len rfl) ?_
     by_cases hil : (i : Int) = K.w.length
     ·
      have hE2 := (hlf.resolve_left fun h => h.1 (by show i = K.w.length; omega)).2
      refine e_pure 7 rfl (by kernel_rfl) (by kernel_rfl) (by kernel_rfl) rfl (step_cast (v' := .bool true) (s_eql rfl rfl) (by rw [decide_eq_true (by omega)])) ?_
      refine e_pure 8 rfl (by kernel_rfl) (by kernel_rfl) (by kernel_rfl) rfl (s_move rfl) ?_
      refine e_takeT 9 rfl (by kernel_rfl) (by kernel_rfl) (by kernel_rfl) 40 (by kernel_rfl) (by kernel_rfl) (fun _ fr => by rw [wanted_of fr rfl rfl rfl]; rfl) rfl hzB (s_move rfl) ?_
      refine e_takeT 10 rfl (by kernel_rfl) (by kernel_rfl) (by kernel_rfl) 40 (by kernel_rfl) (by kernel_rfl) (fun _ fr => by rw [wanted_of fr rfl rfl rfl]; rfl) rfl hzB (s_move rfl) ?_
      refine e_takeT 11 rfl (by kernel_rfl) (by kernel_rfl) (by kernel_rfl) 40 (by kernel_rfl) (by kernel_rfl) (fun _ fr => by rw [wanted_of fr rfl rfl rfl]; rfl) rfl hzB (s_field rfl rfl (by decide)) ?_
      refine e_takeT 12 rfl (by kernel_rfl) (by kernel_rfl) (by kernel_rfl) 40 (by kernel_rfl) (by kernel_rfl) (fun _ fr => by rw [wanted_of fr rfl rfl rfl]; rfl) rfl hzB (s_ld rfl (.own meA rfl)) ?_
      refine e_one 13 rfl (by kernel_rfl) ?_
      refine o_yes rfl rfl ?_
      refine o_call (hnx up ({ s with S := s.S.tick } : BkS) j b S' RST FST hup hj hE2 hnt hz) rfl rfl rfl pkA (fun w st => hw.out st (hin_cons meA (hin_cons meA (hin_cons meA (hin_cons meA (hin_app hiA hiA)))))) (fun v97 S97 ⟨s2, hv97, hS97, hR2, hF2, he2⟩ => ?_)
      subst hv97
      subst hS97
      refine o_nil ?_
      refine x_oneL rfl ?_
      refine e_one 14 rfl (by kernel_rfl) ?_
      refine o_step rfl (s_pick_t rfl rfl) ?_
      refine o_nil ?_
      refine x_oneL rfl ?_
      refine e_one 15 rfl (by kernel_rfl) ?_
      refine o_step rfl (s_assign rfl) ?_
      refine o_nil ?_
      refine x_oneL rfl ?_
      refine e_done (by kernel_rfl) ?_
      refine x_then (hK15 _ _ ?_)
      refine c_ret ?_
      refine x_block_ret (x_then_ret (?_))
      refine x_sub (Sub.refl _) (H' := ((K.b, .cells [.slice K.ra K.re.length K.rc, .slice K.ta K.w.length K.tc, .slice K.ba K.bl.length K.bc, .slice K.xa K.R.length K.xc, .slice s2.fa (zeroF :: s2.S.fs).length s2.fc, .map (some K.bn), .map (some K.bt), .map (some K.bf), .slice K.sa (K.N + 1) K.sc, .int .i64 (s2.S.fuel : Nat), .bool false].toArray 103 (0, 0)) :: (K.bn, mxO EkF s2.en s2.cn) :: (K.bt, mxO EkT s2.et s2.ct) :: (K.bf, mxO EkP s2.ef s2.cf) :: (s2.Sf ++ s2.Ss))) hzB ?_
      exact x_ret rfl (.tmp rfl (.nil)) (⟨s2, rfl, rfl, hR2, hF2, he2⟩)
     ·
      obtain ⟨_, rfl, rfl⟩ := hlf.resolve_right fun h => hil (by have : i = K.w.length := h.1; omega)
      refine e_pure 7 rfl (by kernel_rfl) (by kernel_rfl) (by kernel_rfl) rfl (step_cast (v' := .bool false) (s_eql rfl rfl) (by rw [decide_eq_false (by omega)])) ?_
      refine e_pure 8 rfl (by kernel_rfl) (by kernel_rfl) (by kernel_rfl) rfl (s_move rfl) ?_
      refine e_skip 9 rfl (by kernel_rfl) (by kernel_rfl) (by kernel_rfl) rfl rfl rfl rfl ?_
      refine e_skip 10 rfl (by kernel_rfl) (by kernel_rfl) (by kernel_rfl) rfl rfl rfl rfl ?_
      refine e_skip 11 rfl (by kernel_rfl) (by kernel_rfl) (by kernel_rfl) rfl rfl rfl rfl ?_
      refine e_skip 12 rfl (by kernel_rfl) (by kernel_rfl) (by kernel_rfl) rfl rfl rfl rfl ?_
      refine e_one 13 rfl (by kernel_rfl) ?_
      refine o_no rfl rfl rfl rfl ?_
      refine o_nil ?_
      refine x_oneL rfl ?_
      refine e_one 14 rfl (by kernel_rfl) ?_
      refine o_step rfl (s_pick_f rfl rfl) ?_
      refine o_nil ?_
      refine x_oneL rfl ?_
      refine e_one 15 rfl (by kernel_rfl) ?_
      refine o_step rfl (s_assign rfl) ?_
      refine o_nil ?_
      refine x_oneL rfl ?_
      refine e_done (by kernel_rfl) ?_
      refine x_then (hK15 _ _ ?_)
      refine c_ret ?_
      refine x_block_ret (x_then_ret (?_))
      refine x_sub (Sub.refl _) (H' := ((K.b, .cells [.slice K.ra K.re.length K.rc, .slice K.ta K.w.length K.tc, .slice K.ba K.bl.length K.bc, .slice K.xa K.R.length K.xc, .slice ({ s with S := s.S.tick } : BkS).fa (zeroF :: ({ s with S := s.S.tick } : BkS).S.fs).length ({ s with S := s.S.tick } : BkS).fc, .map (some K.bn), .map (some K.bt), .map (some K.bf), .slice K.sa (K.N + 1) K.sc, .int .i64 (({ s with S := s.S.tick } : BkS).S.fuel : Nat), .bool false].toArray 103 (0, 0)) :: (K.bn, mxO EkF ({ s with S := s.S.tick } : BkS).en ({ s with S := s.S.tick } : BkS).cn) :: (K.bt, mxO EkT ({ s with S := s.S.tick } : BkS).et ({ s with S := s.S.tick } : BkS).ct) :: (K.bf, mxO EkP ({ s with S := s.S.tick } : BkS).ef ({ s with S := s.S.tick } : BkS).cf) :: (({ s with S := s.S.tick } : BkS).Sf ++ ({ s with S := s.S.tick } : BkS).Ss))) hzB ?_
      exact x_ret rfl (.tmp rfl (.nil)) (⟨({ s with S := s.S.tick } : BkS), rfl, rfl, RST, FST, rfl⟩)
    ·
     refine o_step rfl (step_cast (v' := .bool false) (s_eql rfl rfl) (by rw [decide_eq_false o3])) ?_
     refine o_step rfl (s_assign rfl) ?_
     refine o_nil ?_
     refine x_then (hK14 _ _ ?_)
     refine c_false rfl ?_
     refine c_seq fun _ hK16 => ?_
     refine c_region ?_
     by_cases o8 : x.op = 8
     ·
      have hlf := hE.iLeaf hx (.inr (.inr (.inr o8)))
      obtain ⟨hg1, hg2⟩ := hK.r8 x hxm o8
      obtain ⟨old, hold⟩ : ∃ y, s.S.cs[x.n.toNat]? = some y := ⟨_, List.getElem?_eq_getElem (by omega)⟩
      refine o_step rfl (step_cast (v' := .bool true) (s_eql rfl rfl) (by rw [decide_eq_true o8])) ?_
      refine o_step rfl (s_assign rfl) ?_
      refine o_nil ?_
      refine x_then (hK16 _ _ ?_)
      refine c_true rfl ?_
      refine c_seq fun _ hK17 => ?_
      refine c_drawE ((b6, .cells [.int .i64 (i : Nat), .int .i64 (j : Nat)].toArray 45 (0, 0)) :: ((K.b, .cells [.slice K.ra K.re.length K.rc, .slice K.ta K.w.length K.tc, .slice K.ba K.bl.length K.bc, .slice K.xa K.R.length K.xc, .slice ({ s with S := s.S.tick } : BkS).fa (zeroF :: ({ s with S := s.S.tick } : BkS).S.fs).length ({ s with S := s.S.tick } : BkS).fc, .map (some K.bn), .map (some K.bt), .map (some K.bf), .slice K.sa (K.N + 1) K.sc, .int .i64 (({ s with S := s.S.tick } : BkS).S.fuel : Nat), .bool false].toArray 103 (0, 0)) :: (K.bn, mxO EkF ({ s with S := s.S.tick } : BkS).en ({ s with S := s.S.tick } : BkS).cn) :: (K.bt, mxO EkT ({ s with S := s.S.tick } : BkS).et ({ s with S := s.S.tick } : BkS).ct) :: (K.bf, mxO EkP ({ s with S := s.S.tick } : BkS).ef ({ s with S := s.S.tick } : BkS).cf) :: (({ s with S := s.S.tick } : BkS).Sf ++ ({ s with S := s.S.tick } : BkS).Ss))) (fun i => Nat.beq i 11) ?_
      refine e_pure 0 rfl (by kernel_rfl) (by kernel_rfl) (by kernel_rfl) rfl (s_move rfl) ?_
      refine e_pure 1 rfl (by kernel_rfl) (by kernel_rfl) (by kernel_rfl) rfl (s_nil rfl) ?_
      refine e_pure 2 rfl (by kernel_rfl) (by kernel_rfl) (by kernel_rfl) rfl (s_field rfl rfl (by decide)) ?_
      refine e_take 3 rfl (by kernel_rfl) (by kernel_rfl) (by kernel_rfl) (by kernel_rfl) (fun _ _ => rfl) rfl hzB (s_ld rfl (.own meA rfl)) ?_
      refine e_pure 4 rfl (by kernel_rfl) (by kernel_rfl) (by kernel_rfl) rfl (s_move rfl) ?_
      refine e_pure 5 rfl (by kernel_rfl) (by kernel_rfl) (by kernel_rfl) rfl (s_nil rfl) ?_
      refine e_pure 6 rfl (by kernel_rfl) (by kernel_rfl) (by kernel_rfl) rfl (s_field rfl rfl (by decide)) ?_
      refine e_take 7 rfl (by kernel_rfl) (by kernel_rfl) (by kernel_rfl) (by kernel_rfl) (fun _ _ => rfl) rfl hzB (s_ld rfl ((RdK.old hw.d1 hw.a1).ld at_ 5 hx rfl (by decide) (by omega))) ?_
      refine e_take 8 rfl (by kernel_rfl) (by kernel_rfl) (by kernel_rfl) (by kernel_rfl) (fun _ _ => rfl) rfl hzB (s_idx rfl rfl hsp (by omega)) ?_
      refine e_take 9 rfl (by kernel_rfl) (by kernel_rfl) (by kernel_rfl) (by kernel_rfl) (fun _ _ => rfl) rfl hzB (s_ldB rfl ((hR.sp.rdk hiA).cels hold) lnA) ?_
      refine e_one 10 rfl (by kernel_rfl) ?_
      refine o_alloc (l := Esp ⟨0, 0⟩) rfl rfl fun b10 => ?_
      refine o_nil ?_
      refine x_oneS hzB ?_
      refine e_one 11 rfl (by kernel_rfl) ?_
      refine o_stW rfl rfl upA lnA lnA onA ?_
      refine o_nil ?_
      refine x_oneL rfl ?_
      refine e_done (by kernel_rfl) ?_
      refine x_then (hK17 _ _ ?_)
      refine c_seq fun _ hK18 => ?_
      refine c_drawE ((b10, .cells (Esp old).toArray 45 (0, 0)) :: (b6, .cells [.int .i64 (i : Nat), .int .i64 (j : Nat)].toArray 45 (0, 0)) :: ((K.b, .cells [.slice K.ra K.re.length K.rc, .slice K.ta K.w.length K.tc, .slice K.ba K.bl.length K.bc, .slice K.xa K.R.length K.xc, .slice ({ s with S := s.S.tick } : BkS).fa (zeroF :: ({ s with S := s.S.tick } : BkS).S.fs).length ({ s with S := s.S.tick } : BkS).fc, .map (some K.bn), .map (some K.bt), .map (some K.bf), .slice K.sa (K.N + 1) K.sc, .int .i64 (({ s with S := s.S.tick } : BkS).S.fuel : Nat), .bool false].toArray 103 (0, 0)) :: (K.bn, mxO EkF ({ s with S := s.S.tick } : BkS).en ({ s with S := s.S.tick } : BkS).cn) :: (K.bt, mxO EkT ({ s with S := s.S.tick } : BkS).et ({ s with S := s.S.tick } : BkS).ct) :: (K.bf, mxO EkP ({ s with S := s.S.tick } : BkS).ef ({ s with S := s.S.tick } : BkS).cf) :: (({ s with S := s.S.tick } : BkS).Sf ++ ({ s with S := s.S.tick } : BkS).Ss))) (fun i => Nat.beq i 29 || Nat.beq i 30 || Nat.beq i 31) ?_
      refine e_takeT 0 rfl (by kernel_rfl) (by kernel_rfl) (by kernel_rfl) 40 (by kernel_rfl) (by kernel_rfl) (fun _ _ => rfl) rfl hzB (s_ldB rfl (RdPK.cels (.own meA)) lnA) ?_
      refine e_takeT 1 rfl (by kernel_rfl) (by kernel_rfl) (by kernel_rfl) 40 (by kernel_rfl) (by kernel_rfl) (fun _ _ => rfl) rfl hzB (s_ldB (cs := Esp noS) rfl ((RdPK.old hw.g hw.ga).cels) rfl) ?_
      by_cases hno : ¬ old = noS
      ·
       obtain ⟨q1, q2, q3⟩ := (hF.sp old (List.mem_of_getElem? hold)).resolve_left hno
       have q3 : old.to ≤ K.w.length := q3
       have hlf := hlf
       rw [good8 o8 hold q1] at hlf
       have hw1l : ((K.w.drop old.fr.toNat).take (old.to.toNat - old.fr.toNat)).length = old.to.toNat - old.fr.toNat := by rw [List.length_take, List.length_drop]; omega
       have hw2l : ((K.w.drop i).take (j - i)).length = j - i := by rw [List.length_take, List.length_drop]; omega
       refine e_pure 2 rfl (by kernel_rfl) (by kernel_rfl) (by kernel_rfl) rfl (step_cast (v' := .bool true) (s_neq_sp rfl rfl) (by rw [decide_eq_false hno]; rfl)) ?_
       refine e_pure 3 rfl (by kernel_rfl) (by kernel_rfl) (by kernel_rfl) rfl (s_move rfl) ?_
       refine e_takeT 4 rfl (by kernel_rfl) (by kernel_rfl) (by kernel_rfl) 40 (by kernel_rfl) (by kernel_rfl) (fun _ fr => by rw [wanted_of fr rfl rfl rfl]; rfl) rfl hzB (s_move rfl) ?_
       refine e_takeT 5 rfl (by kernel_rfl) (by kernel_rfl) (by kernel_rfl) 40 (by kernel_rfl) (by kernel_rfl) (fun _ fr => by rw [wanted_of fr rfl rfl rfl]; rfl) rfl hzB (s_nil rfl) ?_
       refine e_takeT 6 rfl (by kernel_rfl) (by kernel_rfl) (by kernel_rfl) 40 (by kernel_rfl) (by kernel_rfl) (fun _ fr => by rw [wanted_of fr rfl rfl rfl]; rfl) rfl hzB (s_field rfl rfl (by decide)) ?_
       refine e_takeT 7 rfl (by kernel_rfl) (by kernel_rfl) (by kernel_rfl) 40 (by kernel_rfl) (by kernel_rfl) (fun _ fr => by rw [wanted_of fr rfl rfl rfl]; rfl) rfl hzB (s_ld rfl (.own meA rfl)) ?_
       refine e_takeT 8 rfl (by kernel_rfl) (by kernel_rfl) (by kernel_rfl) 40 (by kernel_rfl) (by kernel_rfl) (fun _ fr => by rw [wanted_of fr rfl rfl rfl]; rfl) rfl hzB (s_field rfl rfl (by decide)) ?_
       refine e_takeT 9 rfl (by kernel_rfl) (by kernel_rfl) (by kernel_rfl) 40 (by kernel_rfl) (by kernel_rfl) (fun _ fr => by rw [wanted_of fr rfl rfl rfl]; rfl) rfl hzB (s_ld rfl (.own meA rfl)) ?_
       refine e_takeT 10 rfl (by kernel_rfl) (by kernel_rfl) (by kernel_rfl) 40 (by kernel_rfl) (by kernel_rfl) (fun _ fr => by rw [wanted_of fr rfl rfl rfl]; rfl) rfl hzB (s_field rfl rfl (by decide)) ?_
       refine e_takeT 11 rfl (by kernel_rfl) (by kernel_rfl) (by kernel_rfl) 40 (by kernel_rfl) (by kernel_rfl) (fun _ fr => by rw [wanted_of fr rfl rfl rfl]; rfl) rfl hzB (s_ld rfl (.own meA rfl)) ?_
       refine e_takeT 12 rfl (by kernel_rfl) (by kernel_rfl) (by kernel_rfl) 40 (by kernel_rfl) (by kernel_rfl) (fun _ fr => by rw [wanted_of fr rfl rfl rfl]; rfl) rfl hzB (step_cast (v' := .slice (midA K.ta K.tc old.fr.toNat 1) ((K.w.drop old.fr.toNat).take (old.to.toNat - old.fr.toNat)).length (K.tc - old.fr.toNat)) (s_slice_mid rfl rfl rfl (by omega)) (by rw [hw1l])) ?_
       refine e_takeT 13 rfl (by kernel_rfl) (by kernel_rfl) (by kernel_rfl) 40 (by kernel_rfl) (by kernel_rfl) (fun _ fr => by rw [wanted_of fr rfl rfl rfl]; rfl) rfl hzB (s_move rfl) ?_
       refine e_takeT 14 rfl (by kernel_rfl) (by kernel_rfl) (by kernel_rfl) 40 (by kernel_rfl) (by kernel_rfl) (fun _ fr => by rw [wanted_of fr rfl rfl rfl]; rfl) rfl hzB (s_nil rfl) ?_
       refine e_takeT 15 rfl (by kernel_rfl) (by kernel_rfl) (by kernel_rfl) 40 (by kernel_rfl) (by kernel_rfl) (fun _ fr => by rw [wanted_of fr rfl rfl rfl]; rfl) rfl hzB (s_field rfl rfl (by decide)) ?_
       refine e_takeT 16 rfl (by kernel_rfl) (by kernel_rfl) (by kernel_rfl) 40 (by kernel_rfl) (by kernel_rfl) (fun _ fr => by rw [wanted_of fr rfl rfl rfl]; rfl) rfl hzB (s_ld rfl (.own meA rfl)) ?_
       refine e_takeT 17 rfl (by kernel_rfl) (by kernel_rfl) (by kernel_rfl) 40 (by kernel_rfl) (by kernel_rfl) (fun _ fr => by rw [wanted_of fr rfl rfl rfl]; rfl) rfl hzB (s_field rfl rfl (by decide)) ?_
       refine e_takeT 18 rfl (by kernel_rfl) (by kernel_rfl) (by kernel_rfl) 40 (by kernel_rfl) (by kernel_rfl) (fun _ fr => by rw [wanted_of fr rfl rfl rfl]; rfl) rfl hzB (s_ld rfl (.own meA rfl)) ?_
       refine e_takeT 19 rfl (by kernel_rfl) (by kernel_rfl) (by kernel_rfl) 40 (by kernel_rfl) (by kernel_rfl) (fun _ fr => by rw [wanted_of fr rfl rfl rfl]; rfl) rfl hzB (s_field rfl rfl (by decide)) ?_
       refine e_takeT 20 rfl (by kernel_rfl) (by kernel_rfl) (by kernel_rfl) 40 (by kernel_rfl) (by kernel_rfl) (fun _ fr => by rw [wanted_of fr rfl rfl rfl]; rfl) rfl hzB (s_ld rfl (.own meA rfl)) ?_
       refine e_takeT 21 rfl (by kernel_rfl) (by kernel_rfl) (by kernel_rfl) 40 (by kernel_rfl) (by kernel_rfl) (fun _ fr => by rw [wanted_of fr rfl rfl rfl]; rfl) rfl hzB (step_cast (v' := .slice (midA K.ta K.tc i 1) ((K.w.drop i).take (j - i)).length (K.tc - i)) (s_slice_mid rfl rfl rfl (by omega)) (by rw [hw2l]; simp only [Int.toNat_natCast])) ?_
       refine e_one 22 rfl (by kernel_rfl) ?_
       refine o_yes rfl rfl ?_
       refine o_callP (bEqual_fn (midA K.ta K.tc old.fr.toNat 1) (K.tc - old.fr.toNat) ((K.w.drop old.fr.toNat).take (old.to.toNat - old.fr.toNat)) (midA K.ta K.tc i 1) (K.tc - i) ((K.w.drop i).take (j - i))) rfl rfl rfl (fun w st => ⟨((RdK.old hw.d2 hw.a2).out w st).mid old.fr.toNat old.to.toNat (by omega) (by omega), ((RdK.old hw.d2 hw.a2).out w st).mid i j hij hj⟩) (fun v133 hv133 => ?_)
       subst hv133
       cases hq : decide (((K.w.drop old.fr.toNat).take (old.to.toNat - old.fr.toNat)) = ((K.w.drop i).take (j - i)))
       ·
        obtain ⟨_, rfl, rfl⟩ := hlf.resolve_right fun h => (of_decide_eq_false hq) h.1.2
        refine o_nil ?_
        refine x_oneS hzB ?_
        refine e_pure 23 rfl (by kernel_rfl) (by kernel_rfl) (by kernel_rfl) rfl (s_pick_t rfl rfl) ?_
        refine e_pure 24 rfl (by kernel_rfl) (by kernel_rfl) (by kernel_rfl) rfl (s_move rfl) ?_
        refine e_skip 25 rfl (by kernel_rfl) (by kernel_rfl) (by kernel_rfl) rfl rfl rfl rfl ?_
        refine e_skip 26 rfl (by kernel_rfl) (by kernel_rfl) (by kernel_rfl) rfl rfl rfl rfl ?_
        refine e_skip 27 rfl (by kernel_rfl) (by kernel_rfl) (by kernel_rfl) rfl rfl rfl rfl ?_
        refine e_skip 28 rfl (by kernel_rfl) (by kernel_rfl) (by kernel_rfl) rfl rfl rfl rfl ?_
        refine e_one 29 rfl (by kernel_rfl) ?_
        refine o_no rfl rfl rfl rfl ?_
        refine o_nil ?_
        refine x_oneL rfl ?_
        refine e_one 30 rfl (by kernel_rfl) ?_
        refine o_step rfl (s_pick_f rfl rfl) ?_
        refine o_nil ?_
        refine x_oneL rfl ?_
        refine e_one 31 rfl (by kernel_rfl) ?_
        refine o_step rfl (s_assign rfl) ?_
        refine o_nil ?_
        refine x_oneL rfl ?_
        refine e_done (by kernel_rfl) ?_
        refine x_then (hK18 _ _ ?_)
        refine c_ret ?_
        refine x_block_ret (x_then_ret (?_))
        refine x_sub (Sub.refl _) (H' := ((K.b, .cells [.slice K.ra K.re.length K.rc, .slice K.ta K.w.length K.tc, .slice K.ba K.bl.length K.bc, .slice K.xa K.R.length K.xc, .slice ({ s with S := s.S.tick } : BkS).fa (zeroF :: ({ s with S := s.S.tick } : BkS).S.fs).length ({ s with S := s.S.tick } : BkS).fc, .map (some K.bn), .map (some K.bt), .map (some K.bf), .slice K.sa (K.N + 1) K.sc, .int .i64 (({ s with S := s.S.tick } : BkS).S.fuel : Nat), .bool false].toArray 103 (0, 0)) :: (K.bn, mxO EkF ({ s with S := s.S.tick } : BkS).en ({ s with S := s.S.tick } : BkS).cn) :: (K.bt, mxO EkT ({ s with S := s.S.tick } : BkS).et ({ s with S := s.S.tick } : BkS).ct) :: (K.bf, mxO EkP ({ s with S := s.S.tick } : BkS).ef ({ s with S := s.S.tick } : BkS).cf) :: (({ s with S := s.S.tick } : BkS).Sf ++ ({ s with S := s.S.tick } : BkS).Ss))) hzB ?_
        exact x_ret rfl (.tmp rfl (.nil)) (⟨({ s with S := s.S.tick } : BkS), rfl, rfl, RST, FST, rfl⟩)
       ·
        have hE2 := (hlf.resolve_left fun h => h.1 ⟨hno, of_decide_eq_true hq⟩).2
        refine o_nil ?_
        refine x_oneS hzB ?_
        refine e_pure 23 rfl (by kernel_rfl) (by kernel_rfl) (by kernel_rfl) rfl (s_pick_t rfl rfl) ?_
        refine e_pure 24 rfl (by kernel_rfl) (by kernel_rfl) (by kernel_rfl) rfl (s_move rfl) ?_
        refine e_takeT 25 rfl (by kernel_rfl) (by kernel_rfl) (by kernel_rfl) 40 (by kernel_rfl) (by kernel_rfl) (fun _ fr => by rw [wanted_of fr rfl rfl rfl]; rfl) rfl hzB (s_move rfl) ?_
        refine e_takeT 26 rfl (by kernel_rfl) (by kernel_rfl) (by kernel_rfl) 40 (by kernel_rfl) (by kernel_rfl) (fun _ fr => by rw [wanted_of fr rfl rfl rfl]; rfl) rfl hzB (s_move rfl) ?_
        refine e_takeT 27 rfl (by kernel_rfl) (by kernel_rfl) (by kernel_rfl) 40 (by kernel_rfl) (by kernel_rfl) (fun _ fr => by rw [wanted_of fr rfl rfl rfl]; rfl) rfl hzB (s_field rfl rfl (by decide)) ?_
        refine e_takeT 28 rfl (by kernel_rfl) (by kernel_rfl) (by kernel_rfl) 40 (by kernel_rfl) (by kernel_rfl) (fun _ fr => by rw [wanted_of fr rfl rfl rfl]; rfl) rfl hzB (s_ld rfl (.own meA rfl)) ?_
        refine e_one 29 rfl (by kernel_rfl) ?_
        refine o_yes rfl rfl ?_
        refine o_call (hnx up ({ s with S := s.S.tick } : BkS) j b S' RST FST hup hj hE2 hnt hz) rfl rfl rfl pkA (fun w st => hw.out st (hin_cons meA (hin_cons meA (hin_cons meA (hin_cons meA (hin_app hiA hiA)))))) (fun v140 S140 ⟨s2, hv140, hS140, hR2, hF2, he2⟩ => ?_)
        subst hv140
        subst hS140
        refine o_nil ?_
        refine x_oneL rfl ?_
        refine e_one 30 rfl (by kernel_rfl) ?_
        refine o_step rfl (s_pick_t rfl rfl) ?_
        refine o_nil ?_
        refine x_oneL rfl ?_
        refine e_one 31 rfl (by kernel_rfl) ?_
        refine o_step rfl (s_assign rfl) ?_
        refine o_nil ?_
        refine x_oneL rfl ?_
        refine e_done (by kernel_rfl) ?_
        refine x_then (hK18 _ _ ?_)
        refine c_ret ?_
        refine x_block_ret (x_then_ret (?_))
        refine x_sub (Sub.refl _) (H' := ((K.b, .cells [.slice K.ra K.re.length K.rc, .slice K.ta K.w.length K.tc, .slice K.ba K.bl.length K.bc, .slice K.xa K.R.length K.xc, .slice s2.fa (zeroF :: s2.S.fs).length s2.fc, .map (some K.bn), .map (some K.bt), .map (some K.bf), .slice K.sa (K.N + 1) K.sc, .int .i64 (s2.S.fuel : Nat), .bool false].toArray 103 (0, 0)) :: (K.bn, mxO EkF s2.en s2.cn) :: (K.bt, mxO EkT s2.et s2.ct) :: (K.bf, mxO EkP s2.ef s2.cf) :: (s2.Sf ++ s2.Ss))) hzB ?_
        exact x_ret rfl (.tmp rfl (.nil)) (⟨s2, rfl, rfl, hR2, hF2, he2⟩)
      ·
       have hold0 : s.S.cs[x.n.toNat]? = some noS := by rw [hold, Decidable.not_not.1 hno]
       obtain ⟨_, rfl, rfl⟩ := hlf.resolve_right fun h => good8n o8 hold0 h.1
       refine e_pure 2 rfl (by kernel_rfl) (by kernel_rfl) (by kernel_rfl) rfl (step_cast (v' := .bool false) (s_neq_sp rfl rfl) (by rw [decide_eq_true (Decidable.not_not.1 hno)]; rfl)) ?_
       refine e_pure 3 rfl (by kernel_rfl) (by kernel_rfl) (by kernel_rfl) rfl (s_move rfl) ?_
       refine e_skip 4 rfl (by kernel_rfl) (by kernel_rfl) (by kernel_rfl) rfl rfl rfl rfl ?_
       refine e_skip 5 rfl (by kernel_rfl) (by kernel_rfl) (by kernel_rfl) rfl rfl rfl rfl ?_
       refine e_skip 6 rfl (by kernel_rfl) (by kernel_rfl) (by kernel_rfl) rfl rfl rfl rfl ?_
       refine e_skip 7 rfl (by kernel_rfl) (by kernel_rfl) (by kernel_rfl) rfl rfl rfl rfl ?_
       refine e_skip 8 rfl (by kernel_rfl) (by kernel_rfl) (by kernel_rfl) rfl rfl rfl rfl ?_
       refine e_skip 9 rfl (by kernel_rfl) (by kernel_rfl) (by kernel_rfl) rfl rfl rfl rfl ?_
       refine e_skip 10 rfl (by kernel_rfl) (by kernel_rfl) (by kernel_rfl) rfl rfl rfl rfl ?_
       refine e_skip 11 rfl (by kernel_rfl) (by kernel_rfl) (by kernel_rfl) rfl rfl rfl rfl ?_
       refine e_skip 12 rfl (by kernel_rfl) (by kernel_rfl) (by kernel_rfl) rfl rfl rfl rfl ?_
       refine e_skip 13 rfl (by kernel_rfl) (by kernel_rfl) (by kernel_rfl) rfl rfl rfl rfl ?_
       refine e_skip 14 rfl (by kernel_rfl) (by kernel_rfl) (by kernel_rfl) rfl rfl rfl rfl ?_
       refine e_skip 15 rfl (by kernel_rfl) (by kernel_rfl) (by kernel_rfl) rfl rfl rfl rfl ?_
       refine e_skip 16 rfl (by kernel_rfl) (by kernel_rfl) (by kernel_rfl) rfl rfl rfl rfl ?_
       refine e_skip 17 rfl (by kernel_rfl) (by kernel_rfl) (by kernel_rfl) rfl rfl rfl rfl ?_
       refine e_skip 18 rfl (by kernel_rfl) (by kernel_rfl) (by kernel_rfl) rfl rfl rfl rfl ?_
       refine e_skip 19 rfl (by kernel_rfl) (by kernel_rfl) (by kernel_rfl) rfl rfl rfl rfl ?_
       refine e_skip 20 rfl (by kernel_rfl) (by kernel_rfl) (by kernel_rfl) rfl rfl rfl rfl ?_
       refine e_skip 21 rfl (by kernel_rfl) (by kernel_rfl) (by kernel_rfl) rfl rfl rfl rfl ?_
       refine e_one 22 rfl (by kernel_rfl) ?_
       refine o_no rfl rfl rfl rfl ?_
       refine o_nil ?_
       refine x_oneS hzB ?_
       refine e_pure 23 rfl (by kernel_rfl) (by kernel_rfl) (by kernel_rfl) rfl (s_pick_f rfl rfl) ?_
       refine e_pure 24 rfl (by kernel_rfl) (by kernel_rfl) (by kernel_rfl) rfl (s_move rfl) ?_
       refine e_skip 25 rfl (by kernel_rfl) (by kernel_rfl) (by kernel_rfl) rfl rfl rfl rfl ?_
       refine e_skip 26 rfl (by kernel_rfl) (by kernel_rfl) (by kernel_rfl) rfl rfl rfl rfl ?_
       refine e_skip 27 rfl (by kernel_rfl) (by kernel_rfl) (by kernel_rfl) rfl rfl rfl rfl ?_
       refine e_skip 28 rfl (by kernel_rfl) (by kernel_rfl) (by kernel_rfl) rfl rfl rfl rfl ?_
       refine e_one 29 rfl (by kernel_rfl) ?_
       refine o_no rfl rfl rfl rfl ?_
       refine o_nil ?_
       refine x_oneL rfl ?_
       refine e_one 30 rfl (by kernel_rfl) ?_
       refine o_step rfl (s_pick_f rfl rfl) ?_
       refine o_nil ?_
       refine x_oneL rfl ?_
       refine e_one 31 rfl (by kernel_rfl) ?_
       refine o_step rfl (s_assign rfl) ?_
       refine o_nil ?_
       refine x_oneL rfl ?_
       refine e_done (by kernel_rfl) ?_
       refine x_then (hK18 _ _ ?_)
       refine c_ret ?_
       refine x_block_ret (x_then_ret (?_))
       refine x_sub (Sub.refl _) (H' := ((K.b, .cells [.slice K.ra K.re.length K.rc, .slice K.ta K.w.length K.tc, .slice K.ba K.bl.length K.bc, .slice K.xa K.R.length K.xc, .slice ({ s with S := s.S.tick } : BkS).fa (zeroF :: ({ s with S := s.S.tick } : BkS).S.fs).length ({ s with S := s.S.tick } : BkS).fc, .map (some K.bn), .map (some K.bt), .map (some K.bf), .slice K.sa (K.N + 1) K.sc, .int .i64 (({ s with S := s.S.tick } : BkS).S.fuel : Nat), .bool false].toArray 103 (0, 0)) :: (K.bn, mxO EkF ({ s with S := s.S.tick } : BkS).en ({ s with S := s.S.tick } : BkS).cn) :: (K.bt, mxO EkT ({ s with S := s.S.tick } : BkS).et ({ s with S := s.S.tick } : BkS).ct) :: (K.bf, mxO EkP ({ s with S := s.S.tick } : BkS).ef ({ s with S := s.S.tick } : BkS).cf) :: (({ s with S := s.S.tick } : BkS).Sf ++ ({ s with S := s.S.tick } : BkS).Ss))) hzB ?_
       exact x_ret rfl (.tmp rfl (.nil)) (⟨({ s with S := s.S.tick } : BkS), rfl, rfl, RST, FST, rfl⟩)
     ·
      refine o_step rfl (step_cast (v' := .bool false) (s_eql rfl rfl) (by rw [decide_eq_false o8])) ?_
      refine o_step rfl (s_assign rfl) ?_
      refine o_nil ?_
      refine x_then (hK16 _ _ ?_)
      refine c_false rfl ?_
      refine c_seq fun _ hK19 => ?_
      refine c_region ?_
      by_cases o5 : x.op = 5
      ·
       have hA := hE.iAltT hx o5
       rw [show x.kids.toNat = ks.num by omega] at hA
       refine o_step rfl (step_cast (v' := .bool true) (s_eql rfl rfl) (by rw [decide_eq_true o5])) ?_
       refine o_step rfl (s_assign rfl) ?_
       refine o_nil ?_
       refine x_then (hK19 _ _ ?_)
       refine c_true rfl ?_
       refine c_seq fun _ hK20 => ?_
       refine c_region ?_
       refine o_step rfl (s_move rfl) ?_
       refine o_step rfl (step_cast (v' := .int .i64 (((at_ + 1) : Nat) : Int)) (s_add rfl rfl (by omega)) (congrArg _ (by omega))) ?_
       refine o_step rfl (s_assign rfl) ?_
       refine o_nil ?_
       refine x_then (hK20 _ _ ?_)
       refine c_seq fun _ hK21 => ?_
       refine c_seq fun _ hK22 => ?_
       refine c_region ?_
       refine o_step rfl (s_move rfl) ?_
       refine o_step rfl (s_nil rfl) ?_
       refine o_step rfl (s_field rfl rfl (by decide)) ?_
       refine o_step rfl (s_ld rfl ((RdK.old hw.d1 hw.a1).ld at_ 8 hx rfl (by decide) (by omega))) ?_
       refine o_step rfl (s_move rfl) ?_
       refine o_nil ?_
       refine x_then (hK22 _ _ ?_)
       refine c_block ?_
       -- not carried: 8
       refine c_loop4 (fun (q : BkS) (m : Nat) (kid : Nat) (g : F) => K.Rep q ∧ Fin K.sr q.S ∧ Part K.re g kid (at_ + 1 + ks.size) ∧ (m : Int) + g.num = x.kids ∧ Ev K.sr q.S (.alt kid g.num i j up) b S' ∧ q.S.fuel ≤ n ∧ up ≤ q.S.fs.length) (fun (q : BkS) (m : Nat) (kid : Nat) (g : F) => [(150, .int .i64 m), (11, .int .i64 kid)]) [(0, _), (1, _), (3, _), (6, _), (149, _)] (fun (q : BkS) (m : Nat) (kid : Nat) (g : F) => (b6, .cells [.int .i64 (i : Nat), .int .i64 (j : Nat)].toArray 45 (0, 0)) :: ((K.b, .cells [.slice K.ra K.re.length K.rc, .slice K.ta K.w.length K.tc, .slice K.ba K.bl.length K.bc, .slice K.xa K.R.length K.xc, .slice q.fa (zeroF :: q.S.fs).length q.fc, .map (some K.bn), .map (some K.bt), .map (some K.bf), .slice K.sa (K.N + 1) K.sc, .int .i64 (q.S.fuel : Nat), .bool false].toArray 103 (0, 0)) :: (K.bn, mxO EkF q.en q.cn) :: (K.bt, mxO EkT q.et q.ct) :: (K.bf, mxO EkP q.ef q.cf) :: (q.Sf ++ q.Ss))) (fun (q : BkS) (m : Nat) (kid : Nat) (g : F) => g.num) ({ s with S := s.S.tick } : BkS) 0 (at_ + 1) ks ⟨RST, FST, hp0.head.2.1, by omega, hA, hnt, hup⟩ sbA sbA hzB ?_
       rintro q m kid g ⟨hRq, hFq, hpg, hmg, hEl, hnq, hupq⟩
       refine c_seq fun _ hK23 => ?_
       refine c_region ?_
       by_cases hmk : (m : Int) < x.kids
       ·
        obtain ⟨y, js, r, rfl⟩ : ∃ y js r, g = F.nd y js r := by cases g with | nil => simp only [F.num] at hmg; omega | nd y a c => exact ⟨y, a, c, rfl⟩
        simp only [F.num] at hEl hmg
        obtain ⟨b1, S2, hT, hc⟩ := hEl.iAlt
        have hkl := (List.getElem?_eq_some_iff.1 hpg.head.1).1
        obtain ⟨hbl2, hbh2, hble2⟩ := hK.beh hpg
        rw [hbh2] at hc
        have hz2 : Sz S2 := by rcases hc with ⟨_, _, h⟩ | ⟨_, h⟩ <;> first | (rw [← h]; exact hz) | exact hz.gr h.mono
        have hTm := hT.mono
        have hT1 := hTm.fuel
        have hT2 := hTm.fs
        refine o_step rfl (step_cast (v' := .bool true) (s_lss rfl rfl) (by rw [decide_eq_true (by omega)])) ?_
        refine o_nil ?_
        refine x_then (hK23 _ _ ?_)
        refine c_seq fun _ hK24 => ?_
        refine c_true rfl ?_
        refine c_skip ?_
        refine x_then (hK24 _ _ ?_)
        refine c_seq fun _ hK25 => ?_
        refine c_block ?_
        refine c_seq fun _ hK26 => ?_
        refine c_seq fun _ hK27 => ?_
        refine c_region ?_
        refine o_step rfl (s_move rfl) ?_
        refine o_step rfl (s_move rfl) ?_
        refine o_step rfl (s_ldB rfl (RdPK.cels (.own meA)) lnA) ?_
        refine o_step rfl (s_move rfl) ?_
        refine o_call (hTk q kid i j up b1 S2 hRq hFq hkl hij hj hupq hT hnq hz2) rfl rfl rfl pkA (fun w st => hw.out st (hin_cons meA (hin_cons meA (hin_cons meA (hin_cons meA (hin_app hiA hiA)))))) (fun v156 S156 ⟨s2, hv156, hS156, hR2, hF2, he2⟩ => ?_)
        subst hv156
        subst hS156
        cases b1
        ·
         subst he2
         have hEl2 := (hc.resolve_left fun h => (by cases h.1)).2
         refine o_nil ?_
         refine x_then (hK27 _ _ ?_)
         refine c_false rfl ?_
         refine c_skip ?_
         refine x_then (hK26 _ _ ?_)
         refine c_region ?_
         refine o_step rfl (s_move rfl) ?_
         refine o_step rfl (s_nil rfl) ?_
         refine o_step rfl (s_field rfl rfl (by decide)) ?_
         refine o_step rfl (s_ld rfl (.own meA rfl)) ?_
         refine o_step rfl (s_move rfl) ?_
         refine o_step rfl (s_idx rfl rfl hsb (by omega)) ?_
         refine o_step rfl (s_ld rfl ((RdK.old hw.d3 hw.a3).ld kid 0 hbl2 rfl (by decide) (by omega))) ?_
         refine o_step rfl (s_assign rfl) ?_
         refine o_nil ?_
         refine x_block ?_
         refine x_then (hK25 _ _ ?_)
         refine c_region ?_
         refine o_step rfl (s_add rfl rfl (by omega)) ?_
         refine o_step rfl (s_move rfl) ?_
         refine o_nil ?_
         exact x_then (x_inv (s2, m + 1, kid + 1 + js.size, r) ⟨hR2, hF2, hpg.head.2.2, by dsimp only; omega, hEl2, by dsimp only; omega, by dsimp only; omega⟩ (by simp only [F.num]; omega) sbA hzB)
        ·
         subst he2
         obtain ⟨rfl, rfl⟩ := (hc.resolve_right fun h => (by cases h.1)).2
         refine o_nil ?_
         refine x_then (hK27 _ _ ?_)
         refine c_true rfl ?_
         refine c_seq fun _ hK28 => ?_
         refine c_region ?_
         refine o_step rfl (s_assign rfl) ?_
         refine o_nil ?_
         refine x_then (hK28 _ _ ?_)
         refine c_ret ?_
         refine x_then_ret (x_block_ret (x_then_ret (x_then_ret (x_block_ret (x_then_ret (x_block_ret (x_then_ret (?_))))))))
         refine x_sub (Sub.refl _) (H' := ((K.b, .cells [.slice K.ra K.re.length K.rc, .slice K.ta K.w.length K.tc, .slice K.ba K.bl.length K.bc, .slice K.xa K.R.length K.xc, .slice s2.fa (zeroF :: s2.S.fs).length s2.fc, .map (some K.bn), .map (some K.bt), .map (some K.bf), .slice K.sa (K.N + 1) K.sc, .int .i64 (s2.S.fuel : Nat), .bool false].toArray 103 (0, 0)) :: (K.bn, mxO EkF s2.en s2.cn) :: (K.bt, mxO EkT s2.et s2.ct) :: (K.bf, mxO EkP s2.ef s2.cf) :: (s2.Sf ++ s2.Ss))) hzB ?_
         exact x_ret rfl (.tmp rfl (.nil)) (⟨s2, rfl, rfl, hR2, hF2, rfl⟩)
       ·
        have hg0 : g.num = 0 := by omega
        rw [hg0] at hEl
        obtain ⟨rfl, rfl⟩ := hEl.iAlt0
        refine o_step rfl (step_cast (v' := .bool false) (s_lss rfl rfl) (by rw [decide_eq_false (by omega)])) ?_
        refine o_nil ?_
        refine x_then (hK23 _ _ ?_)
        refine c_seq fun _ hK29 => ?_
        refine c_false rfl ?_
        refine c_exit ?_
        refine x_then_exit ?_
        refine x_then_exit ?_
        refine x_block_exit ?_
        refine x_then (hK21 _ _ ?_)
        refine c_seq fun _ hK30 => ?_
        refine c_region ?_
        refine o_step rfl (s_assign rfl) ?_
        refine o_nil ?_
        refine x_then (hK30 _ _ ?_)
        refine c_ret ?_
        refine x_block_ret (x_then_ret (?_))
        refine x_sub (Sub.refl _) (H' := ((K.b, .cells [.slice K.ra K.re.length K.rc, .slice K.ta K.w.length K.tc, .slice K.ba K.bl.length K.bc, .slice K.xa K.R.length K.xc, .slice q.fa (zeroF :: q.S.fs).length q.fc, .map (some K.bn), .map (some K.bt), .map (some K.bf), .slice K.sa (K.N + 1) K.sc, .int .i64 (q.S.fuel : Nat), .bool false].toArray 103 (0, 0)) :: (K.bn, mxO EkF q.en q.cn) :: (K.bt, mxO EkT q.et q.ct) :: (K.bf, mxO EkP q.ef q.cf) :: (q.Sf ++ q.Ss))) hzB ?_
        exact x_ret rfl (.tmp rfl (.nil)) (⟨q, rfl, rfl, hRq, hFq, rfl⟩)
      ·
       refine o_step rfl (step_cast (v' := .bool false) (s_eql rfl rfl) (by rw [decide_eq_false o5])) ?_
       refine o_step rfl (s_assign rfl) ?_
       refine o_nil ?_
       refine x_then (hK19 _ _ ?_)
       refine c_false rfl ?_
       refine c_seq fun _ hK31 => ?_
       refine c_region ?_
       by_cases o4 : x.op = 4
       ·
        obtain ⟨u, S2, hp, hE2⟩ := hE.iCat hx o4
        have hz1 := hz.gr hE2.mono
        have hpg := push_gr hp
        have hpg1 := hpg.fuel
        have hfn : FrOk K.sr (⟨up, at_, at_ + 1, x.kids.toNat, i, j⟩ : Frm) := ⟨x, ks, e0, hp0, hj, .inl ⟨o4, ks, _, hp0.head.2.1, by show ks.num = x.kids.toNat; omega⟩⟩
        refine o_step rfl (step_cast (v' := .bool true) (s_eql rfl rfl) (by rw [decide_eq_true o4])) ?_
        refine o_step rfl (s_assign rfl) ?_
        refine o_nil ?_
        refine x_then (hK31 _ _ ?_)
        refine c_true rfl ?_
        refine c_seq fun _ hK32 => ?_
        refine c_drawE ([(b6, .cells [.int .i64 (i : Nat), .int .i64 (j : Nat)].toArray 45 (0, 0))]) (fun i => false) ?_
        refine e_pure 0 rfl (by kernel_rfl) (by kernel_rfl) (by kernel_rfl) rfl (s_move rfl) ?_
        refine e_pure 1 rfl (by kernel_rfl) (by kernel_rfl) (by kernel_rfl) rfl (s_move rfl) ?_
        refine e_pure 2 rfl (by kernel_rfl) (by kernel_rfl) (by kernel_rfl) rfl (s_move rfl) ?_
        refine e_pure 3 rfl (by kernel_rfl) (by kernel_rfl) (by kernel_rfl) rfl (s_move rfl) ?_
        refine e_pure 4 rfl (by kernel_rfl) (by kernel_rfl) (by kernel_rfl) rfl (s_move rfl) ?_
        refine e_pure 5 rfl (by kernel_rfl) (by kernel_rfl) (by kernel_rfl) rfl (step_cast (v' := .int .i64 (((at_ + 1) : Nat) : Int)) (s_add rfl rfl (by omega)) (congrArg _ (by omega))) ?_
        refine e_pure 6 rfl (by kernel_rfl) (by kernel_rfl) (by kernel_rfl) rfl (s_move rfl) ?_
        refine e_pure 7 rfl (by kernel_rfl) (by kernel_rfl) (by kernel_rfl) rfl (s_nil rfl) ?_
        refine e_pure 8 rfl (by kernel_rfl) (by kernel_rfl) (by kernel_rfl) rfl (s_field rfl rfl (by decide)) ?_
        refine e_take 9 rfl (by kernel_rfl) (by kernel_rfl) (by kernel_rfl) (by kernel_rfl) (fun _ _ => rfl) rfl hzB (step_cast (v' := .int .i64 ((x.kids.toNat : Nat) : Int)) (s_ld rfl ((RdK.old hw.d1 hw.a1).ld at_ 8 hx rfl (by decide) (by omega))) (congrArg _ (by omega))) ?_
        refine e_take 10 rfl (by kernel_rfl) (by kernel_rfl) (by kernel_rfl) (by kernel_rfl) (fun _ _ => rfl) rfl hzB (s_ldB rfl (RdPK.cels (.own meA)) lnA) ?_
        refine e_pure 11 rfl (by kernel_rfl) (by kernel_rfl) (by kernel_rfl) rfl (s_build (cs := [_, _, _, _, _, _]) (vs := [_, _, _, _, _]) rfl rfl (.cons rfl rfl rfl rfl rfl (.cons rfl rfl rfl rfl rfl (.cons rfl rfl rfl rfl rfl (.cons rfl rfl rfl rfl rfl (.cons rfl rfl rfl rfl rfl (.nil))))))) ?_
        refine e_pure 13 rfl (by kernel_rfl) (by kernel_rfl) (by kernel_rfl) rfl (s_field rfl rfl (by decide)) ?_
        refine e_take 14 rfl (by kernel_rfl) (by kernel_rfl) (by kernel_rfl) (by kernel_rfl) (fun _ _ => rfl) rfl hzB (s_ld rfl (.own meA rfl)) ?_
        refine e_one 12 rfl (by kernel_rfl) ?_
        refine o_call (pushB_fn K ({ s with S := s.S.tick } : BkS) RST FST (⟨up, at_, at_ + 1, x.kids.toNat, i, j⟩ : Frm) hfn hup u S2 hp hz1) rfl rfl rfl pkA (fun _ _ => trivial) (fun v179 S179 ⟨s1, hv179, hS179, hR1, hF1, he1, hu1, hu2⟩ => ?_)
        subst hv179
        subst hS179
        refine o_nil ?_
        refine x_oneS hzB ?_
        refine e_one 15 rfl (by kernel_rfl) ?_
        refine o_call (hnx u s1 i b S' hR1 hF1 hu2 (by omega) (by rw [he1]; exact hE2) (by rw [he1]; exact Nat.le_trans hpg1 hnt) hz) rfl rfl rfl pkA (fun w st => hw.out st (hin_cons meA (hin_cons meA (hin_cons meA (hin_cons meA (hin_app hiA hiA)))))) (fun v182 S182 ⟨s2, hv182, hS182, hR2, hF2, he2⟩ => ?_)
        subst hv182
        subst hS182
        refine o_nil ?_
        refine x_oneS hzB ?_
        refine e_one 16 rfl (by kernel_rfl) ?_
        refine o_step rfl (s_assign rfl) ?_
        refine o_nil ?_
        refine x_oneS hzB ?_
        refine e_done (by kernel_rfl) ?_
        refine x_then (hK32 _ _ ?_)
        refine c_ret ?_
        refine x_block_ret (x_then_ret (?_))
        refine x_sub (Sub.refl _) (H' := ((K.b, .cells [.slice K.ra K.re.length K.rc, .slice K.ta K.w.length K.tc, .slice K.ba K.bl.length K.bc, .slice K.xa K.R.length K.xc, .slice s2.fa (zeroF :: s2.S.fs).length s2.fc, .map (some K.bn), .map (some K.bt), .map (some K.bf), .slice K.sa (K.N + 1) K.sc, .int .i64 (s2.S.fuel : Nat), .bool false].toArray 103 (0, 0)) :: (K.bn, mxO EkF s2.en s2.cn) :: (K.bt, mxO EkT s2.et s2.ct) :: (K.bf, mxO EkP s2.ef s2.cf) :: (s2.Sf ++ s2.Ss))) hzB ?_
        exact x_ret rfl (.tmp rfl (.nil)) (⟨s2, rfl, rfl, hR2, hF2, he2⟩)
       ·
        refine o_step rfl (step_cast (v' := .bool false) (s_eql rfl rfl) (by rw [decide_eq_false o4])) ?_
        refine o_step rfl (s_assign rfl) ?_
        refine o_nil ?_
        refine x_then (hK31 _ _ ?_)
        refine c_false rfl ?_
        refine c_seq fun _ hK33 => ?_
        refine c_region ?_
        by_cases o6 : x.op = 6
        ·
         obtain ⟨u, S2, hp, hE2⟩ := hE.iRep hx o6
         have hz1 := hz.gr hE2.mono
         have hpg := push_gr hp
         have hpg1 := hpg.fuel
         have hfn : FrOk K.sr (⟨up, at_, 0, 0, 0, j⟩ : Frm) := ⟨x, ks, e0, hp0, hj, .inr (.inl ⟨o6, Nat.zero_le _⟩)⟩
         refine o_step rfl (step_cast (v' := .bool true) (s_eql rfl rfl) (by rw [decide_eq_true o6])) ?_
         refine o_step rfl (s_assign rfl) ?_
         refine o_nil ?_
         refine x_then (hK33 _ _ ?_)
         refine c_true rfl ?_
         refine c_seq fun _ hK34 => ?_
         refine c_drawE ([(b6, .cells [.int .i64 (i : Nat), .int .i64 (j : Nat)].toArray 45 (0, 0))]) (fun i => false) ?_
         refine e_pure 0 rfl (by kernel_rfl) (by kernel_rfl) (by kernel_rfl) rfl (s_move rfl) ?_
         refine e_pure 1 rfl (by kernel_rfl) (by kernel_rfl) (by kernel_rfl) rfl (s_move rfl) ?_
         refine e_pure 2 rfl (by kernel_rfl) (by kernel_rfl) (by kernel_rfl) rfl (s_move rfl) ?_
         refine e_pure 3 rfl (by kernel_rfl) (by kernel_rfl) (by kernel_rfl) rfl (s_move rfl) ?_
         refine e_pure 4 rfl (by kernel_rfl) (by kernel_rfl) (by kernel_rfl) rfl (s_field rfl rfl (by decide)) ?_
         refine e_take 5 rfl (by kernel_rfl) (by kernel_rfl) (by kernel_rfl) (by kernel_rfl) (fun _ _ => rfl) rfl hzB (s_ld rfl (.own meA rfl)) ?_
         refine e_pure 6 rfl (by kernel_rfl) (by kernel_rfl) (by kernel_rfl) rfl (s_build (cs := [_, _]) (vs := [_]) rfl rfl (.cons rfl rfl rfl rfl rfl (.nil))) ?_
         refine e_pure 7 rfl (by kernel_rfl) (by kernel_rfl) (by kernel_rfl) rfl (s_build (cs := [_, _, _, _, _, _]) (vs := [_, _, _]) rfl rfl (.cons rfl rfl rfl rfl rfl (.cons rfl rfl rfl rfl rfl (.cons rfl rfl rfl rfl rfl (.nil))))) ?_
         refine e_pure 9 rfl (by kernel_rfl) (by kernel_rfl) (by kernel_rfl) rfl (s_field rfl rfl (by decide)) ?_
         refine e_take 10 rfl (by kernel_rfl) (by kernel_rfl) (by kernel_rfl) (by kernel_rfl) (fun _ _ => rfl) rfl hzB (s_ld rfl (.own meA rfl)) ?_
         refine e_one 8 rfl (by kernel_rfl) ?_
         refine o_call (pushB_fn K ({ s with S := s.S.tick } : BkS) RST FST (⟨up, at_, 0, 0, 0, j⟩ : Frm) hfn hup u S2 hp hz1) rfl rfl rfl pkA (fun _ _ => trivial) (fun v193 S193 ⟨s1, hv193, hS193, hR1, hF1, he1, hu1, hu2⟩ => ?_)
         subst hv193
         subst hS193
         refine o_nil ?_
         refine x_oneS hzB ?_
         refine e_one 11 rfl (by kernel_rfl) ?_
         refine o_call (hnx u s1 i b S' hR1 hF1 hu2 (by omega) (by rw [he1]; exact hE2) (by rw [he1]; exact Nat.le_trans hpg1 hnt) hz) rfl rfl rfl pkA (fun w st => hw.out st (hin_cons meA (hin_cons meA (hin_cons meA (hin_cons meA (hin_app hiA hiA)))))) (fun v196 S196 ⟨s2, hv196, hS196, hR2, hF2, he2⟩ => ?_)
         subst hv196
         subst hS196
         refine o_nil ?_
         refine x_oneS hzB ?_
         refine e_one 12 rfl (by kernel_rfl) ?_
         refine o_step rfl (s_assign rfl) ?_
         refine o_nil ?_
         refine x_oneS hzB ?_
         refine e_done (by kernel_rfl) ?_
         refine x_then (hK34 _ _ ?_)
         refine c_ret ?_
         refine x_block_ret (x_then_ret (?_))
         refine x_sub (Sub.refl _) (H' := ((K.b, .cells [.slice K.ra K.re.length K.rc, .slice K.ta K.w.length K.tc, .slice K.ba K.bl.length K.bc, .slice K.xa K.R.length K.xc, .slice s2.fa (zeroF :: s2.S.fs).length s2.fc, .map (some K.bn), .map (some K.bt), .map (some K.bf), .slice K.sa (K.N + 1) K.sc, .int .i64 (s2.S.fuel : Nat), .bool false].toArray 103 (0, 0)) :: (K.bn, mxO EkF s2.en s2.cn) :: (K.bt, mxO EkT s2.et s2.ct) :: (K.bf, mxO EkP s2.ef s2.cf) :: (s2.Sf ++ s2.Ss))) hzB ?_
         exact x_ret rfl (.tmp rfl (.nil)) (⟨s2, rfl, rfl, hR2, hF2, he2⟩)
        ·
         have o7 : x.op = 7 := by omega
         obtain ⟨y, js, rfl⟩ := one_kid hp0.wf (.inr o7)
         have hkl := (List.getElem?_eq_some_iff.1 hp0.head.2.1.head.1).1
         obtain ⟨u, S2, S3, hp, hT, hS3⟩ := hE.iGrp hx o7
         rw [hbh] at hp hS3
         have hz3 : Sz S3 := by rw [hS3] at hz; cases b <;> first | exact hz | exact ⟨hz.1, hz.2⟩
         have hz1 := hz3.gr hT.mono
         have hTm := hT.mono
         have hT1 := hTm.fuel
         have hpg := push_gr hp
         have hpg1 := hpg.fuel
         have hfn : FrOk K.sr (⟨up, at_, 0, 0, i, j⟩ : Frm) := ⟨x, _, e0, hp0, hj, .inr (.inr ⟨o7, hij⟩)⟩
         refine o_step rfl (step_cast (v' := .bool false) (s_eql rfl rfl) (by rw [decide_eq_false o6])) ?_
         refine o_step rfl (s_assign rfl) ?_
         refine o_nil ?_
         refine x_then (hK33 _ _ ?_)
         refine c_false rfl ?_
         refine c_skip ?_
         refine x_block ?_
         refine x_then (hK8 _ _ ?_)
         refine c_seq fun _ hK35 => ?_
         refine c_region ?_
         refine o_step rfl (s_move rfl) ?_
         refine o_step rfl (s_move rfl) ?_
         refine o_step rfl (step_cast (v' := .int .i64 (((at_ + 1) : Nat) : Int)) (s_add rfl rfl (by omega)) (congrArg _ (by omega))) ?_
         refine o_step rfl (s_move rfl) ?_
         refine o_step rfl (s_nil rfl) ?_
         refine o_step rfl (s_field rfl rfl (by decide)) ?_
         refine o_step rfl (s_ld rfl (.own meA rfl)) ?_
         refine o_step rfl (s_move rfl) ?_
         refine o_step rfl (s_idx rfl rfl hsb (by omega)) ?_
         refine o_step rfl (s_ld rfl ((RdK.old hw.d3 hw.a3).ld at_ 0 hbl rfl (by decide) (by omega))) ?_
         refine o_call (emptiedB_fn K ({ s with S := s.S.tick } : BkS) hrl RST.sp RST.cl hK.N hK.g7 (at_ + 1) (at_ + 1 + (F.nd y js .nil).size) (by omega) hble) rfl rfl rfl ((Pick.takeC pkA pkA)) (fun w st => hw.out st (hin_cons meA hiA)) (fun v207 S207 ⟨la, lc, Sl, Ss207, hv207, hS207, hOl, hO207⟩ => ?_)
         subst hv207
         subst hS207
         refine o_step rfl (s_assign rfl) ?_
         refine o_nil ?_
         refine x_then (hK35 _ _ ?_)
         refine c_seq fun _ hK36 => ?_
         refine c_seq fun _ hK37 => ?_
         refine c_drawE ([(b6, .cells [.int .i64 (i : Nat), .int .i64 (j : Nat)].toArray 45 (0, 0))]) (fun i => false) ?_
         refine e_pure 0 rfl (by kernel_rfl) (by kernel_rfl) (by kernel_rfl) rfl (s_move rfl) ?_
         refine e_pure 1 rfl (by kernel_rfl) (by kernel_rfl) (by kernel_rfl) rfl (s_move rfl) ?_
         refine e_pure 2 rfl (by kernel_rfl) (by kernel_rfl) (by kernel_rfl) rfl (step_cast (v' := .int .i64 (((at_ + 1) : Nat) : Int)) (s_add rfl rfl (by omega)) (congrArg _ (by omega))) ?_
         refine e_take 3 rfl (by kernel_rfl) (by kernel_rfl) (by kernel_rfl) (by kernel_rfl) (fun _ _ => rfl) rfl hzB (s_ldB rfl (RdPK.cels (.own meA)) lnA) ?_
         refine e_pure 4 rfl (by kernel_rfl) (by kernel_rfl) (by kernel_rfl) rfl (s_move rfl) ?_
         refine e_pure 5 rfl (by kernel_rfl) (by kernel_rfl) (by kernel_rfl) rfl (s_move rfl) ?_
         refine e_pure 6 rfl (by kernel_rfl) (by kernel_rfl) (by kernel_rfl) rfl (s_move rfl) ?_
         refine e_take 7 rfl (by kernel_rfl) (by kernel_rfl) (by kernel_rfl) (by kernel_rfl) (fun _ _ => rfl) rfl hzB (s_ldB rfl (RdPK.cels (.own meA)) lnA) ?_
         refine e_pure 8 rfl (by kernel_rfl) (by kernel_rfl) (by kernel_rfl) rfl (s_build (cs := [_, _, _, _, _, _]) (vs := [_, _, _]) rfl rfl (.cons rfl rfl rfl rfl rfl (.cons rfl rfl rfl rfl rfl (.cons rfl rfl rfl rfl rfl (.nil))))) ?_
         refine e_one 9 rfl (by kernel_rfl) ?_
         refine o_call (pushB_fn K ({ s with S := { s.S.tick with cs := fgt (K.sr.inn (at_ + 1) (at_ + 1 + (F.nd y js .nil).size)) s.S.cs }, Ss := Ss207 } : BkS) ⟨hR.fr, hO207, by dsimp only; rw [fgt_len]; exact hR.cl, hR.en, hR.et, hR.el, hR.ef⟩ (FST.fgt _) (⟨up, at_, 0, 0, i, j⟩ : Frm) hfn hup u S2 hp hz1) rfl rfl rfl ((Pick.takeC pkA (Pick.takeC pkA (Pick.takeC pkA (Pick.takeC pkA pkA))))) (fun _ _ => trivial) (fun v217 S217 ⟨s1, hv217, hS217, hR1, hF1, he1, hu1, hu2⟩ => ?_)
         subst hv217
         subst hS217
         refine o_nil ?_
         refine x_oneS hzB ?_
         refine e_one 10 rfl (by kernel_rfl) ?_
         refine o_call (hTk s1 (at_ + 1) i j u b S3 hR1 hF1 hkl hij hj hu2 (by rw [he1]; exact hT) (by rw [he1]; exact Nat.le_trans hpg1 hnt) hz3) rfl rfl rfl pkA (fun w st => hw.out st (hin_cons meA (hin_cons meA (hin_cons meA (hin_cons meA (hin_app hiA hiA)))))) (fun v218 S218 ⟨s2, hv218, hS218, hR2, hF2, he2⟩ => ?_)
         subst hv218
         subst hS218
         cases b
         ·
          subst he2
          refine o_nil ?_
          refine x_oneS hzB ?_
          refine e_done (by kernel_rfl) ?_
          refine x_then (hK37 _ _ ?_)
          refine c_false rfl ?_
          refine c_skip ?_
          refine x_then (hK36 _ _ ?_)
          refine c_seq fun _ hK38 => ?_
          refine c_region ?_
          refine o_step rfl (s_move rfl) ?_
          refine o_step rfl (s_move rfl) ?_
          refine o_step rfl (step_cast (v' := .int .i64 (((at_ + 1) : Nat) : Int)) (s_add rfl rfl (by omega)) (congrArg _ (by omega))) ?_
          refine o_step rfl (s_move rfl) ?_
          refine o_step rfl (s_nil rfl) ?_
          refine o_step rfl (s_field rfl rfl (by decide)) ?_
          refine o_step rfl (s_ld rfl (.own meA rfl)) ?_
          refine o_step rfl (s_move rfl) ?_
          refine o_step rfl (s_idx rfl rfl hsb (by omega)) ?_
          refine o_step rfl (s_ld rfl ((RdK.old hw.d3 hw.a3).ld at_ 0 hbl rfl (by decide) (by omega))) ?_
          refine o_step rfl (s_move rfl) ?_
          refine o_call (restoreB_fn K s2 hrl hR2.sp hR2.cl hK.N hK.g7 (at_ + 1) (at_ + 1 + (F.nd y js .nil).size) (by omega) hble la lc (emW (K.sr.inn (at_ + 1) (at_ + 1 + (F.nd y js .nil).size)) s.S.cs) Sl hOl (emW_len _ _)) rfl rfl rfl ((Pick.takeA pkA (Pick.takeC pkA pkA))) (fun w st => hw.out st (hin_app hiA (hin_cons meA hiA))) (fun v230 S230 ⟨Ss230, hS230, hO230⟩ => ?_)
          subst hS230
          refine o_nil ?_
          refine x_then (hK38 _ _ ?_)
          refine c_seq fun _ hK39 => ?_
          refine c_region ?_
          refine o_step rfl (s_assign rfl) ?_
          refine o_nil ?_
          refine x_then (hK39 _ _ ?_)
          refine c_ret ?_
          refine ?_
          refine x_sub (Sub.refl _) (H' := ((K.b, .cells [.slice K.ra K.re.length K.rc, .slice K.ta K.w.length K.tc, .slice K.ba K.bl.length K.bc, .slice K.xa K.R.length K.xc, .slice ({ s2 with S := { s2.S with cs := rst (K.sr.inn (at_ + 1) (at_ + 1 + (F.nd y js .nil).size)) (emW (K.sr.inn (at_ + 1) (at_ + 1 + (F.nd y js .nil).size)) s.S.cs) s2.S.cs }, Ss := Ss230 } : BkS).fa (zeroF :: ({ s2 with S := { s2.S with cs := rst (K.sr.inn (at_ + 1) (at_ + 1 + (F.nd y js .nil).size)) (emW (K.sr.inn (at_ + 1) (at_ + 1 + (F.nd y js .nil).size)) s.S.cs) s2.S.cs }, Ss := Ss230 } : BkS).S.fs).length ({ s2 with S := { s2.S with cs := rst (K.sr.inn (at_ + 1) (at_ + 1 + (F.nd y js .nil).size)) (emW (K.sr.inn (at_ + 1) (at_ + 1 + (F.nd y js .nil).size)) s.S.cs) s2.S.cs }, Ss := Ss230 } : BkS).fc, .map (some K.bn), .map (some K.bt), .map (some K.bf), .slice K.sa (K.N + 1) K.sc, .int .i64 (({ s2 with S := { s2.S with cs := rst (K.sr.inn (at_ + 1) (at_ + 1 + (F.nd y js .nil).size)) (emW (K.sr.inn (at_ + 1) (at_ + 1 + (F.nd y js .nil).size)) s.S.cs) s2.S.cs }, Ss := Ss230 } : BkS).S.fuel : Nat), .bool false].toArray 103 (0, 0)) :: (K.bn, mxO EkF ({ s2 with S := { s2.S with cs := rst (K.sr.inn (at_ + 1) (at_ + 1 + (F.nd y js .nil).size)) (emW (K.sr.inn (at_ + 1) (at_ + 1 + (F.nd y js .nil).size)) s.S.cs) s2.S.cs }, Ss := Ss230 } : BkS).en ({ s2 with S := { s2.S with cs := rst (K.sr.inn (at_ + 1) (at_ + 1 + (F.nd y js .nil).size)) (emW (K.sr.inn (at_ + 1) (at_ + 1 + (F.nd y js .nil).size)) s.S.cs) s2.S.cs }, Ss := Ss230 } : BkS).cn) :: (K.bt, mxO EkT ({ s2 with S := { s2.S with cs := rst (K.sr.inn (at_ + 1) (at_ + 1 + (F.nd y js .nil).size)) (emW (K.sr.inn (at_ + 1) (at_ + 1 + (F.nd y js .nil).size)) s.S.cs) s2.S.cs }, Ss := Ss230 } : BkS).et ({ s2 with S := { s2.S with cs := rst (K.sr.inn (at_ + 1) (at_ + 1 + (F.nd y js .nil).size)) (emW (K.sr.inn (at_ + 1) (at_ + 1 + (F.nd y js .nil).size)) s.S.cs) s2.S.cs }, Ss := Ss230 } : BkS).ct) :: (K.bf, mxO EkP ({ s2 with S := { s2.S with cs := rst (K.sr.inn (at_ + 1) (at_ + 1 + (F.nd y js .nil).size)) (emW (K.sr.inn (at_ + 1) (at_ + 1 + (F.nd y js .nil).size)) s.S.cs) s2.S.cs }, Ss := Ss230 } : BkS).ef ({ s2 with S := { s2.S with cs := rst (K.sr.inn (at_ + 1) (at_ + 1 + (F.nd y js .nil).size)) (emW (K.sr.inn (at_ + 1) (at_ + 1 + (F.nd y js .nil).size)) s.S.cs) s2.S.cs }, Ss := Ss230 } : BkS).cf) :: (({ s2 with S := { s2.S with cs := rst (K.sr.inn (at_ + 1) (at_ + 1 + (F.nd y js .nil).size)) (emW (K.sr.inn (at_ + 1) (at_ + 1 + (F.nd y js .nil).size)) s.S.cs) s2.S.cs }, Ss := Ss230 } : BkS).Sf ++ ({ s2 with S := { s2.S with cs := rst (K.sr.inn (at_ + 1) (at_ + 1 + (F.nd y js .nil).size)) (emW (K.sr.inn (at_ + 1) (at_ + 1 + (F.nd y js .nil).size)) s.S.cs) s2.S.cs }, Ss := Ss230 } : BkS).Ss))) hzB ?_
          exact x_ret rfl (.tmp rfl (.nil)) (⟨{ s2 with S := { s2.S with cs := rst (K.sr.inn (at_ + 1) (at_ + 1 + (F.nd y js .nil).size)) (emW (K.sr.inn (at_ + 1) (at_ + 1 + (F.nd y js .nil).size)) s.S.cs) s2.S.cs }, Ss := Ss230 }, rfl, rfl, ⟨hR2.fr, hO230, by dsimp only; rw [rst_len]; exact hR2.cl, hR2.en, hR2.et, hR2.el, hR2.ef⟩, hF2.rst _ (fun z hz1 => emW_ok (.inl rfl) _ _ hF.sp z hz1), by rw [hS3]; rfl⟩)
         ·
          subst he2
          refine o_nil ?_
          refine x_oneS hzB ?_
          refine e_done (by kernel_rfl) ?_
          refine x_then (hK37 _ _ ?_)
          refine c_true rfl ?_
          refine c_seq fun _ hK40 => ?_
          refine c_region ?_
          refine o_step rfl (s_assign rfl) ?_
          refine o_nil ?_
          refine x_then (hK40 _ _ ?_)
          refine c_ret ?_
          refine x_then_ret (?_)
          refine x_sub (Sub.refl _) (H' := ((K.b, .cells [.slice K.ra K.re.length K.rc, .slice K.ta K.w.length K.tc, .slice K.ba K.bl.length K.bc, .slice K.xa K.R.length K.xc, .slice s2.fa (zeroF :: s2.S.fs).length s2.fc, .map (some K.bn), .map (some K.bt), .map (some K.bf), .slice K.sa (K.N + 1) K.sc, .int .i64 (s2.S.fuel : Nat), .bool false].toArray 103 (0, 0)) :: (K.bn, mxO EkF s2.en s2.cn) :: (K.bt, mxO EkT s2.et s2.ct) :: (K.bf, mxO EkP s2.ef s2.cf) :: (s2.Sf ++ s2.Ss))) hzB ?_
          exact x_ret rfl (.tmp rfl (.nil)) (⟨s2, rfl, rfl, hR2, hF2, by rw [hS3]; rfl⟩)
end Go.Proofs.YtloepfcndglmmaaDoor
