/- A region in any order: an operation that comes early although a later one changes what it reads, for the later one waits for it by way of others. Conditions: none. -/
import Derived.Test.YtopmnmigpbdddaaGreatDoorHlB
import Derived.StillTail
import Derived.Test.YtopmnmigpbdddaaGreatDoorHTZ
import Derived.Test.YtopmnmigpbdddaaGreatDoorZB4Z
import Derived.Test.YtopmnmigpbdddaaGreatDoorBS7Z
namespace Go.HL
open Go
section
variable {P : Program} {ro : Option Nat} {ops : Array Oper} {Q : Pst} {md : Region.Mode} {S S0 : World → Prop} {late : Nat → Bool}
def waitsT (md : Region.Mode) (ops : Array Oper) : Nat → Nat → Nat → Bool
  | 0, _, _ => false
  | n + 1, j, i => match ops[j]? with
    | some o => o.after.toList.any fun e => Region.binds md e && (e.on == i || waitsT md ops n e.on i)
    | none => false
def Closed (md : Region.Mode) (ops : Array Oper) (li : Array Bool) : Prop := ∀ j oj, ops[j]? = some oj → li.getD j false = true → ∀ e ∈ oj.after, Region.binds md e = true → li.getD e.on false = true
def closedB (md : Region.Mode) (ops : Array Oper) (li : Array Bool) : Bool := (List.range ops.size).all fun j => !(li.getD j false) || (match ops[j]? with
  | some o => o.after.toList.all fun e => !(Region.binds md e) || li.getD e.on false
  | none => true)
theorem closedB_spec {li : Array Bool} (h : closedB md ops li = true) : Closed md ops li := fun j oj hj hl e he hb => by
  have hlt : j < ops.size := (Array.getElem?_eq_some_iff.1 hj).1
  have h1 := List.all_eq_true.1 h j (List.mem_range.2 hlt)
  rw [hl, hj] at h1
  simp only [Bool.not_true, Bool.false_or] at h1
  have h2 := List.all_eq_true.1 h1 e (by simpa using he)
  rw [hb] at h2
  simpa using h2
def lateTB (md : Region.Mode) (ops : Array Oper) (late : Nat → Bool) (f i : Nat) : Bool := (List.range ops.size).all fun j => !late j || waitsT md ops f j i
theorem lateTB_spec {f i : Nat} (h : lateTB md ops late f i = true) : ∀ j oj, ops[j]? = some oj → late j = true → ∃ f, waitsT md ops f j i = true := fun j oj hj hlj => by
  have hlt : j < ops.size := (Array.getElem?_eq_some_iff.1 hj).1
  have h1 := List.all_eq_true.1 h j (List.mem_range.2 hlt)
  rw [hlj] at h1
  simp only [Bool.not_true, Bool.false_or] at h1
  exact ⟨f, h1⟩
theorem Closed.waits {li : Array Bool} (hcl : Closed md ops li) {i : Nat} : ∀ (f j : Nat), waitsT md ops f j i = true → (∀ o, ops[j]? = some o → ∀ e ∈ o.after, Region.binds md e = true → li.getD e.on false = true) → li.getD i false = true
  | 0, _, h, _ => by cases h
  | f + 1, j, h, hp => by
    unfold waitsT at h
    split at h
    · rename_i o ho
      obtain ⟨e, he, hb⟩ := List.any_eq_true.1 h
      simp only [Bool.and_eq_true, Bool.or_eq_true, beq_iff_eq] at hb
      have hm : e ∈ o.after := by simpa using he
      have h1 := hp o ho e hm hb.1
      rcases hb.2 with h2 | h2
      · rw [← h2]; exact h1
      · exact hcl.waits f e.on h2 fun o' ho' x hx hbx => hcl e.on o' ho' h1 x hx hbx
    · cases h
theorem Closed.set {li : Array Bool} (hcl : Closed md ops li) {j : Nat} (hp : ∀ o, ops[j]? = some o → ∀ e ∈ o.after, Region.binds md e = true → li.getD e.on false = true) : Closed md ops (li.setIfInBounds j true) := fun k ok hk hl e he hb => by
  by_cases h : j = k
  · subst h; exact getD_set_true (hp ok hk e he hb)
  · rw [getD_set_ne false h] at hl
    exact getD_set_true (hcl k ok hk hl e he hb)
theorem wpL_firstT {i : Nat} {o : Oper} {v : Value} (hi : ops[i]? = some o) (hsel : ∀ (j : Nat) (o : Oper) cs b, ops[j]? = some o → o.op ≠ .select cs b) (hQ : ∀ c a w, Q (.panic c) (a.put o.dst v) w → Q (.panic c) a w)
    (hl : ∀ j oj, ops[j]? = some oj → late j = true → ∃ f, waitsT md ops f j i = true) :
    ∀ (n : Nat) (li : Array Bool) (a : Act) (w : World),
      (∀ j oj, ops[j]? = some oj → j ≠ i → li.getD j true = false → (∀ e ∈ oj.after, Region.binds md e = true → e.on ≠ i) → o.apart ops oj = true) →
      Closed md ops li → i ∈ Region.ready md ops li → YieldsIf P ops S o v a → S w → S0 w → wpL ro P md ops Q S S0 late n (li.setIfInBounds i true) (a.put o.dst v) w → wpL ro P md ops Q S S0 late (n + 1) li a w := by
  intro n
  induction n with
  | zero =>
    intro li a w _ hcl hr hy hS hS0 h
    refine ⟨fun h0 => absurd (h0 ▸ hr) (by simp), fun j hj => ?_⟩
    by_cases e : j = i
    · subst e; exact yif_op hi hy hS ⟨fun _ h => h, hS0, h⟩
    · have := ready_mono hj e
      rw [h.1] at this; cases this
  | succ n ih =>
    intro li a w hf hcl hr hy hS hS0 h
    refine ⟨fun h0 => absurd (h0 ▸ hr) (by simp), fun j hj => ?_⟩
    by_cases e : j = i
    · subst e; exact yif_op hi hy hS ⟨fun _ h => h, hS0, h⟩
    · have h1 := h.2 j (ready_mono hj e)
      obtain ⟨hu, oj, hoj, hall⟩ := mem_ready.1 hj
      have hno : ∀ x ∈ oj.after, Region.binds md x = true → x.on ≠ i := by
        intro x hx hb he
        have e1 := hall x hx hb
        have e0 := (mem_ready.1 hr).1
        rw [he] at e1
        rcases Nat.lt_or_ge i li.size with hs | hs
        · simp [hs] at e0 e1; rw [e0] at e1; cases e1
        · simp [Array.getElem?_eq_none hs] at e1
      have hlate : late j = false := by
        cases hj' : late j
        · rfl
        · obtain ⟨f, hwt⟩ := hl j oj hoj hj'
          have h9 := hcl.waits f j hwt fun o' ho' x hx hb => by rw [hoj] at ho'; cases ho'; exact hall x hx hb
          rw [getD_both (mem_ready.1 hr).1] at h9; cases h9
      have h2 := wpOpR_putIf hoj (hf j oj hoj e hu hno) (fun cs b => hsel i o cs b hi) (fun cs b => hsel j oj cs b hoj) hQ hy h1
      have hf' : ∀ k ok, ops[k]? = some ok → k ≠ i → (li.setIfInBounds j true).getD k true = false → (∀ x ∈ ok.after, Region.binds md x = true → x.on ≠ i) → o.apart ops ok = true := by
        intro k ok hk hki hun hn
        refine hf k ok hk hki ?_ hn
        by_cases ejk : j = k
        · subst ejk; exact hu
        · rwa [getD_set_ne true ejk] at hun
      refine wpOpIn_mono (fun a' w' h3 => ⟨h3.2.1, h3.2.2.1, ih (li.setIfInBounds j true) a' w' hf' (hcl.set fun o' ho' x hx hb => by rw [hoj] at ho'; cases ho'; exact hall x hx hb) (ready_mono hr (Ne.symm e)) h3.1 (h3.2.1 hlate hS) h3.2.2.1 ?_⟩) h2
      rw [Array.setIfInBounds_comm _ _ e]
      exact h3.2.2.2
end
section
variable {P : Program} {κ : Cx} {Q : Pst} {L L' : Loc} {H H' : Hp} {ops : Array Oper} {rest : List Oper} {ty t t' : TypeId} {d : Nat} {pos : String} {af : Array Edge} {v u : Value} {x y z : Operand} {op : Op} {late : Nat → Bool}
theorem e_takeT (i : Nat) {fuel : Nat} {listed : Array Bool} {Hs : Hp} {g : Option (Nat × Bool)} (hi : ops[i]? = some ⟨some d, op, ty, pos, af, g⟩) (hsl : Region.noSelect ops = true) (hfr : Region.free .any ops listed i = true) (hr : (Region.ready .any ops listed).contains i = true)
    (f : Nat) (hcl : closedB .any ops listed = true) (hlt : lateTB .any ops late f i = true) (hg : ∀ a : Act, Fr a κ.n κ.ds L → Region.wanted ⟨some d, op, ty, pos, af, g⟩ (yielded ops a.tmps) = true) (hn : Nat.blt d κ.n = true) (hS : HSub H Hs) (hs : Step P κ op ty L Hs v) (h : E P κ ops Q Hs late fuel (listed.setIfInBounds i true) ((d, v) :: L) H) : E P κ ops Q Hs late (fuel + 1) listed L H := by
  refine ⟨fun ro a w hro ok => ?_⟩
  exact wpL_firstT hi (Region.noSelect_spec hsl) (fun c a w h => h.elim) (lateTB_spec hlt) fuel listed a w (Region.free_spec hi hfr) (closedB_spec hcl) (by simpa using hr)
    (.inl ⟨hg a ok.fr, fun w' st => hs.out a.eval w' _ _ _ _ (fun x u hu => ok.fr.ev hu) st⟩) (ok.st.sub hS) (ok.st.sub HSub.nil) (h.out ro _ _ hro ⟨ok.fr.put hn v, ok.st⟩)
end
end Go.HL
namespace Go.Proofs.YtopmnmigpbdddaaGreatDoor
open Go Go.HL Go.Proofs Go.HL.Kl Go.HL.Kl.Mc Go.HL.Kl.Mc.AskE
theorem cels_sub {κ : Cx} {H : Hp} {b o : Nat} {l cs : List Value} (h : Cels κ H ⟨b, o, none⟩ l) (f : Nat) (hv : ∀ (j : Nat) u, cs[j]? = some u → l[f + j]? = some u) : Cels κ H ⟨b, o + f, none⟩ cs :=
  ⟨fun w st j u hu => by
    have := h.out w st (f + j) u (hv j u hu)
    rw [Addr.add_lit] at this ⊢
    rw [Nat.add_assoc]; exact this⟩
theorem good1 {K : SrE} {x : Nd} {cs : List Sp} {i j : Nat} (h : x.op = 1) : K.good x cs i j ↔ j = i + 1 ∧ ∃ b, K.w[i]? = some b ∧ x.set.getLsbD b.toNat = true :=
  ⟨fun hg => by rcases hg with h1 | h1 | h1 | h1 <;> first | exact h1.2 | omega, fun hg => .inl ⟨h, hg⟩⟩
theorem good2 {K : SrE} {x : Nd} {cs : List Sp} {i j : Nat} (h : x.op = 2) : K.good x cs i j ↔ j = 0 :=
  ⟨fun hg => by rcases hg with h1 | h1 | h1 | h1 <;> first | exact h1.2 | omega, fun hg => .inr (.inl ⟨h, hg⟩)⟩
theorem good3 {K : SrE} {x : Nd} {cs : List Sp} {i j : Nat} (h : x.op = 3) : K.good x cs i j ↔ i = K.w.length :=
  ⟨fun hg => by rcases hg with h1 | h1 | h1 | h1 <;> first | exact h1.2 | omega, fun hg => .inr (.inr (.inl ⟨h, hg⟩))⟩
theorem good8 {K : SrE} {x : Nd} {cs : List Sp} {i j : Nat} {old : Sp} (h : x.op = 8) (ho : cs[x.n.toNat]? = some old) (h0 : 0 ≤ old.fr) : K.good x cs i j ↔ old ≠ noS ∧ (K.w.drop old.fr.toNat).take (old.to.toNat - old.fr.toNat) = (K.w.drop i).take (j - i) := by
  have e : cs.getD x.n.toNat noS = old := by rw [List.getD_eq_getElem?_getD, ho]; rfl
  have e2 : (old.to - old.fr).toNat = old.to.toNat - old.fr.toNat := by omega
  constructor
  · intro hg
    rcases hg with h1 | h1 | h1 | h1
    · omega
    · omega
    · omega
    · rw [e, e2] at h1; exact h1.2
  · intro hg
    refine .inr (.inr (.inr ⟨h, ?_⟩))
    rw [e, e2]; exact hg
theorem good8n {K : SrE} {x : Nd} {cs : List Sp} {i j : Nat} (h : x.op = 8) (ho : cs[x.n.toNat]? = some noS) : ¬ K.good x cs i j := fun hg => by
  have e : cs.getD x.n.toNat noS = noS := by rw [List.getD_eq_getElem?_getD, ho]; rfl
  rcases hg with h1 | h1 | h1 | h1
  · omega
  · omega
  · omega
  · exact h1.2.1 e
set_option maxHeartbeats 8000000 in
theorem takeK_fn (K : BkE) (hK : K.ok) (n : Nat) (s : BkS) (at_ i j up : Nat) (b : Bool) (S' : SS) (hR : K.Rep s) (hF : Fin K.sr s.S) (hat : at_ < K.re.length) (hij : i ≤ j) (hj : j ≤ K.w.length) (hup : up ≤ s.S.fs.length) (hE : Ev K.sr s.S (.take at_ i j up) b S') (hn : s.S.fuel ≤ n + 1) (hnb : n < 9223372036854775807) (hz : Sz S') (hnx : ∀ u, NextB K n u) (hTk : TakeB K n) : HL.Fn Tryz.prog 68 [pt K.b, .int .i64 at_, .agg [.int .i64 (i : Nat), .int .i64 (j : Nat)].toArray, .int .i64 up] (fun W => K.Env W (keys (K.obj s :: K.tl s))) (K.obj s :: K.tl s) (AnsB K (S') (b)) := by
  refine fn_of Tryz.func68 rfl rfl rfl fun w0 hw => ?_
  have hwl := hK.wl
  have hrl := hK.len
  have hsl := hw.d1.sl
  have hst := hw.d2.sl
  have hstc := hst.cap
  have hsb := hw.d3.sl
  have hbll := hK.bl.1
  have hfu := hE.iFuel
  have hsp := hR.sp.sl
  rw [hR.cl] at hsp
  have hcl := hR.cl
  have RST : K.Rep ({ s with S := s.S.tick } : BkS) := ⟨hR.fr, hR.sp, hR.cl, hR.en, hR.et, hR.el, hR.ef⟩
  have FST : Fin K.sr ({ s with S := s.S.tick } : BkS).S := ⟨hF.fr, hF.ch, hF.sp⟩
  have hnt : ({ s with S := s.S.tick } : BkS).S.fuel ≤ n := by show s.S.fuel - 1 ≤ n; omega
  obtain ⟨x, hx⟩ : ∃ x, K.re[at_]? = some x := ⟨_, List.getElem?_eq_getElem hat⟩
  have hxm := List.mem_of_getElem? hx
  obtain ⟨ks, e0, hp0⟩ := hK.at_ hx
  have hkn := hp0.wf.2.1
  have hop := op_rng (hK.rng hxm)
  obtain ⟨hbl, hbh, hble⟩ := hK.beh hp0
  have hksl := ks.num_le
  refine cR fun _ hK1 => ?_; refine o_box rfl rfl rfl fun b6 => ?_; refine oA (oZ hK1 (c_seq fun _ hK2 => ?_)); refine cR fun _ hK3 => ?_; refine oM ?_; refine oS sN ?_; refine oS sF ?_; refine oS sL ?_; refine oS eqF (oZ hK3 ?_); refine cFZ hK2 (c_seq fun _ hK4 => ?_); refine cR fun _ hK5 => ?_; refine oM ?_; refine oS sN ?_; refine oS sF ?_; refine oS sL (oZ hK5 ?_); refine cFZ hK4 (cR fun _ hK6 => ?_); refine oM ?_; refine oS sN ?_; refine oS sF ?_; refine oS sL ?_; refine oS (step_cast (v' := .int .i64 ((s.S.fuel - 1 : Nat) : Int)) (s_sub rfl rfl (by omega)) (congrArg _ (by omega))) ?_; refine oS sN ?_; refine oS sF ?_; refine o_store rfl rfl rfl upA ltA rfl ?_; refine oZ hK6 (cR fun _ hK7 => ?_); refine oM ?_; refine oS sN ?_; refine oS sF ?_; refine oS sL (oM ?_); refine oS (s_idx rfl rfl hsl (by omega)) ?_
  refine oA (oZ hK7 (c_seq fun _ hK8 => ?_)); refine cR fun _ hK9 => ?_; refine oM ?_; refine oS sN ?_; refine oS sF ?_; refine oS (s_ld rfl ((RdK.old hw.d1 hw.a1).ld at_ 0 hx rfl (by decide) (by omega))) ?_; refine oZ hK9 (c_block (cR fun _ hK10 => ?_))
  by_cases o1 : x.op = 1
  ·have hlf := hE.iLeaf hx (.inl o1)
   rw [good1 o1] at hlf
   refine oS (eqT (h := o1)) ?_; refine oA (oZ hK10 ?_); refine cT (c_seq fun _ hK11 => ?_); refine c_drawE ((b6, .cells [.int .i64 (i : Nat), .int .i64 (j : Nat)].toArray 40 (0, 0)) :: ((K.obj ({ s with S := s.S.tick } : BkS)) :: K.tl ({ s with S := s.S.tick } : BkS))) (fun i => Nat.beq i 26 || Nat.beq i 27 || Nat.beq i 28) ?_; refine eP 0 rfl sF ?_; refine e_takeT 1 rfl (by kernel_rfl) (by kernel_rfl) (by kernel_rfl) 40 (by kernel_rfl) (by kernel_rfl) (fun _ _ => rfl) rfl hzB (s_ld rfl (.own meA rfl)) ?_; refine eP 2 rfl sF ?_; refine e_takeT 3 rfl (by kernel_rfl) (by kernel_rfl) (by kernel_rfl) 40 (by kernel_rfl) (by kernel_rfl) (fun _ _ => rfl) rfl hzB (s_ld rfl (.own meA rfl)) ?_; refine eP 4 rfl sD ?_
   by_cases hji : (j : Int) = (i : Int) + 1
   ·obtain ⟨c, hc⟩ : ∃ c, K.w[i]? = some c := gE
    refine eP 5 rfl eqT ?_; refine eP 6 rfl sM ?_; refine e_takeT 7 rfl (by kernel_rfl) (by kernel_rfl) (by kernel_rfl) 40 (by kernel_rfl) (by kernel_rfl) (fun _ fr => by rw [wanted_of fr rfl rfl rfl]; rfl) rfl hzB (s_move rfl) ?_; refine e_takeT 8 rfl (by kernel_rfl) (by kernel_rfl) (by kernel_rfl) 40 (by kernel_rfl) (by kernel_rfl) (fun _ fr => by rw [wanted_of fr rfl rfl rfl]; rfl) rfl hzB (s_nil rfl) ?_; refine e_takeT 9 rfl (by kernel_rfl) (by kernel_rfl) (by kernel_rfl) 40 (by kernel_rfl) (by kernel_rfl) (fun _ fr => by rw [wanted_of fr rfl rfl rfl]; rfl) rfl hzB (s_field rfl rfl (by decide)) ?_; refine e_takeT 10 rfl (by kernel_rfl) (by kernel_rfl) (by kernel_rfl) 40 (by kernel_rfl) (by kernel_rfl) (fun _ fr => by rw [wanted_of fr rfl rfl rfl]; rfl) rfl hzB (s_ldB rfl (cels_sub ((RdK.old hw.d1 hw.a1).lds at_ hx rfl) 1 nd_set) (Ec_lenM _)) ?_; refine e_takeT 11 rfl (by kernel_rfl) (by kernel_rfl) (by kernel_rfl) 40 (by kernel_rfl) (by kernel_rfl) (fun _ fr => by rw [wanted_of fr rfl rfl rfl]; rfl) rfl hzB (s_move rfl) ?_; refine e_takeT 12 rfl (by kernel_rfl) (by kernel_rfl) (by kernel_rfl) 40 (by kernel_rfl) (by kernel_rfl) (fun _ fr => by rw [wanted_of fr rfl rfl rfl]; rfl) rfl hzB (s_nil rfl) ?_; refine e_takeT 13 rfl (by kernel_rfl) (by kernel_rfl) (by kernel_rfl) 40 (by kernel_rfl) (by kernel_rfl) (fun _ fr => by rw [wanted_of fr rfl rfl rfl]; rfl) rfl hzB (s_field rfl rfl (by decide)) ?_; refine e_takeT 14 rfl (by kernel_rfl) (by kernel_rfl) (by kernel_rfl) 40 (by kernel_rfl) (by kernel_rfl) (fun _ fr => by rw [wanted_of fr rfl rfl rfl]; rfl) rfl hzB (s_ld rfl (.own meA rfl)) ?_; refine e_takeT 15 rfl (by kernel_rfl) (by kernel_rfl) (by kernel_rfl) 40 (by kernel_rfl) (by kernel_rfl) (fun _ fr => by rw [wanted_of fr rfl rfl rfl]; rfl) rfl hzB (s_field rfl rfl (by decide)) ?_
    refine e_takeT 16 rfl (by kernel_rfl) (by kernel_rfl) (by kernel_rfl) 40 (by kernel_rfl) (by kernel_rfl) (fun _ fr => by rw [wanted_of fr rfl rfl rfl]; rfl) rfl hzB (s_ld rfl (.own meA rfl)) ?_; refine e_takeT 17 rfl (by kernel_rfl) (by kernel_rfl) (by kernel_rfl) 40 (by kernel_rfl) (by kernel_rfl) (fun _ fr => by rw [wanted_of fr rfl rfl rfl]; rfl) rfl hzB (s_idx rfl rfl hst (by omega)) ?_; refine e_takeT 18 rfl (by kernel_rfl) (by kernel_rfl) (by kernel_rfl) 40 (by kernel_rfl) (by kernel_rfl) (fun _ fr => by rw [wanted_of fr rfl rfl rfl]; rfl) rfl hzB (s_ld rfl ((RdK.old hw.d2 hw.a2).ld i 0 hc rfl (by decide) (by omega))) ?_; refine eO 19 rfl ?_; refine oY ?_; refine o_callP (has_fn x.set c.toNat c.toNat_lt) rfl rfl rfl (fun _ _ => trivial) (fun v63 hv63 => ?_); subst hv63
    cases hh : x.set.getLsbD c.toNat
    ·obtain ⟨_, rfl, rfl⟩ := hlf.resolve_right fun h => by obtain ⟨⟨_, c2, h1, h2⟩, _⟩ := h; have h1 : K.w[i]? = some c2 := h1; rw [hc] at h1; cases h1; rw [hh] at h2; cases h2
     refine oX ?_; refine eP 20 rfl sT ?_; refine eP 21 rfl sM ?_; refine eS 22 rfl (eS 23 rfl (eS 24 rfl (eS 25 rfl (eO 26 rfl ?_)))); refine oN (o_nil ?_); refine x_oneL rfl ?_; refine eO 27 rfl ?_; refine oS sP (o_nil ?_); refine x_oneL rfl ?_; refine eO 28 rfl (oA (o_nil ?_)); refine x_oneL rfl ?_; refine eZ hK11 (c_ret ?_); refine x_block_ret (x_then_ret (?_))
     refine x_sub (Sub.refl _) (H' := ((K.obj ({ s with S := s.S.tick } : BkS)) :: K.tl ({ s with S := s.S.tick } : BkS))) hzB ?_; exact xR rfl rfl (⟨({ s with S := s.S.tick } : BkS), rfl, rfl, RST, FST, rfl⟩)
    ·have hE2 := (hlf.resolve_left fun h => h.1 ⟨by omega, c, hc, hh⟩).2
     refine oX ?_; refine eP 20 rfl sT ?_; refine eP 21 rfl sM ?_; refine e_takeT 22 rfl (by kernel_rfl) (by kernel_rfl) (by kernel_rfl) 40 (by kernel_rfl) (by kernel_rfl) (fun _ fr => by rw [wanted_of fr rfl rfl rfl]; rfl) rfl hzB (s_move rfl) ?_; refine e_takeT 23 rfl (by kernel_rfl) (by kernel_rfl) (by kernel_rfl) 40 (by kernel_rfl) (by kernel_rfl) (fun _ fr => by rw [wanted_of fr rfl rfl rfl]; rfl) rfl hzB (s_move rfl) ?_; refine e_takeT 24 rfl (by kernel_rfl) (by kernel_rfl) (by kernel_rfl) 40 (by kernel_rfl) (by kernel_rfl) (fun _ fr => by rw [wanted_of fr rfl rfl rfl]; rfl) rfl hzB (s_field rfl rfl (by decide)) ?_; refine e_takeT 25 rfl (by kernel_rfl) (by kernel_rfl) (by kernel_rfl) 40 (by kernel_rfl) (by kernel_rfl) (fun _ fr => by rw [wanted_of fr rfl rfl rfl]; rfl) rfl hzB (s_ld rfl (.own meA rfl)) ?_; refine eO 26 rfl ?_; refine oY ?_; refine o_call (hnx up ({ s with S := s.S.tick } : BkS) j b S' RST FST hup hj hE2 hnt hz) rfl rfl rfl pkA (fun w st => hw.out st (hin_cons meA (hin_cons meA (hin_cons meA (hin_cons meA (hin_app hiA hiA)))))) (fun v70 S70 ⟨s2, hv70, hS70, hR2, hF2, he2⟩ => ?_); subst hv70
     subst hS70; refine o_nil ?_; refine x_oneL rfl ?_; refine eO 27 rfl ?_; refine oS sT (o_nil ?_); refine x_oneL rfl ?_; refine eO 28 rfl (oA (o_nil ?_)); refine x_oneL rfl ?_; refine eZ hK11 (c_ret ?_); refine x_block_ret (x_then_ret (?_))
     refine x_sub (Sub.refl _) (H' := ((K.obj s2) :: K.tl s2)) hzB ?_; exact xR rfl rfl (⟨s2, rfl, rfl, hR2, hF2, he2⟩)
   ·obtain ⟨_, rfl, rfl⟩ := hlf.resolve_right fun h => hji (by have := h.1.1; omega)
    refine eP 5 rfl eqF ?_; refine eP 6 rfl sM ?_; refine eS 7 rfl (eS 8 rfl (eS 9 rfl (eS 10 rfl (eS 11 rfl (eS 12 rfl (eS 13 rfl (eS 14 rfl (eS 15 rfl (eS 16 rfl (eS 17 rfl (eS 18 rfl (eO 19 rfl ?_)))))))))))); refine oN (oX ?_); refine eP 20 rfl sP ?_; refine eP 21 rfl sM ?_; refine eS 22 rfl (eS 23 rfl (eS 24 rfl (eS 25 rfl (eO 26 rfl ?_)))); refine oN (o_nil ?_); refine x_oneL rfl ?_; refine eO 27 rfl ?_; refine oS sP (o_nil ?_); refine x_oneL rfl ?_; refine eO 28 rfl (oA (o_nil ?_)); refine x_oneL rfl ?_; refine eZ hK11 (c_ret ?_); refine x_block_ret (x_then_ret (?_))
    refine x_sub (Sub.refl _) (H' := ((K.obj ({ s with S := s.S.tick } : BkS)) :: K.tl ({ s with S := s.S.tick } : BkS))) hzB ?_; exact xR rfl rfl (⟨({ s with S := s.S.tick } : BkS), rfl, rfl, RST, FST, rfl⟩)
  ·refine oS (eqF (h := o1)) ?_; refine oA (oZ hK10 ?_); refine cF (cR fun _ hK12 => ?_)
   by_cases o2 : x.op = 2
   ·have hlf := hE.iLeaf hx (.inr (.inl o2))
    rw [good2 o2] at hlf
    refine oS (eqT (h := o2)) ?_; refine oA (oZ hK12 ?_); refine cT (cR fun _ hK13 => ?_); refine oS sF ?_; refine oS sL ?_
    by_cases hj0 : (j : Int) = 0
    ·obtain rfl : j = 0 := by omega
     have hE2 := (hlf.resolve_left fun h => h.1 rfl).2
     refine oS eqT (oM ?_); refine oY (oM ?_); refine oY (oM ?_); refine oY ?_; refine o_call (hnx up ({ s with S := s.S.tick } : BkS) 0 b S' RST FST hup (Nat.zero_le _) hE2 hnt hz) rfl rfl rfl pkA (fun w st => hw.out st (hin_cons meA (hin_cons meA (hin_cons meA (hin_cons meA (hin_app hiA hiA)))))) (fun v80 S80 ⟨s2, hv80, hS80, hR2, hF2, he2⟩ => ?_); subst hv80
     subst hS80; refine oS sT (oA (oZ hK13 (c_ret ?_))); refine x_block_ret (x_then_ret (?_))
     refine x_sub (Sub.refl _) (H' := ((K.obj s2) :: K.tl s2)) hzB ?_; exact xR rfl rfl (⟨s2, rfl, rfl, hR2, hF2, he2⟩)
    ·obtain ⟨_, rfl, rfl⟩ := hlf.resolve_right fun h => hj0 (by have := h.1; omega)
     refine oS eqF (oM ?_); refine oN ?_; refine oN ?_; refine oN ?_; refine oS sP (oA (oZ hK13 (c_ret ?_))); refine x_block_ret (x_then_ret (?_))
     refine x_sub (Sub.refl _) (H' := ((K.obj ({ s with S := s.S.tick } : BkS)) :: K.tl ({ s with S := s.S.tick } : BkS))) hzB ?_; exact xR rfl rfl (⟨({ s with S := s.S.tick } : BkS), rfl, rfl, RST, FST, rfl⟩)
   ·refine oS (eqF (h := o2)) ?_; refine oA (oZ hK12 ?_); refine cF (cR fun _ hK14 => ?_)
    by_cases o3 : x.op = 3
    ·have hlf := hE.iLeaf hx (.inr (.inr (.inl o3)))
     rw [good3 o3] at hlf
     refine oS (eqT (h := o3)) ?_; refine oA (oZ hK14 ?_); refine cT (c_seq fun _ hK15 => ?_); refine c_drawE ((b6, .cells [.int .i64 (i : Nat), .int .i64 (j : Nat)].toArray 40 (0, 0)) :: ((K.obj ({ s with S := s.S.tick } : BkS)) :: K.tl ({ s with S := s.S.tick } : BkS))) (fun i => Nat.beq i 13 || Nat.beq i 14 || Nat.beq i 15) ?_; refine eP 0 rfl sF ?_; refine e_takeT 1 rfl (by kernel_rfl) (by kernel_rfl) (by kernel_rfl) 40 (by kernel_rfl) (by kernel_rfl) (fun _ _ => rfl) rfl hzB (s_ld rfl (.own meA rfl)) ?_; refine eP 2 rfl sM ?_; refine eP 3 rfl sN ?_; refine eP 4 rfl sF ?_; refine e_takeT 5 rfl (by kernel_rfl) (by kernel_rfl) (by kernel_rfl) 40 (by kernel_rfl) (by kernel_rfl) (fun _ _ => rfl) rfl hzB (s_ld rfl (.own meA rfl)) ?_; refine eP 6 rfl sC ?_
     by_cases hil : (i : Int) = K.w.length
     ·have hE2 := (hlf.resolve_left fun h => h.1 (by show i = K.w.length; omega)).2
      refine eP 7 rfl eqT ?_; refine eP 8 rfl sM ?_; refine e_takeT 9 rfl (by kernel_rfl) (by kernel_rfl) (by kernel_rfl) 40 (by kernel_rfl) (by kernel_rfl) (fun _ fr => by rw [wanted_of fr rfl rfl rfl]; rfl) rfl hzB (s_move rfl) ?_; refine e_takeT 10 rfl (by kernel_rfl) (by kernel_rfl) (by kernel_rfl) 40 (by kernel_rfl) (by kernel_rfl) (fun _ fr => by rw [wanted_of fr rfl rfl rfl]; rfl) rfl hzB (s_move rfl) ?_; refine e_takeT 11 rfl (by kernel_rfl) (by kernel_rfl) (by kernel_rfl) 40 (by kernel_rfl) (by kernel_rfl) (fun _ fr => by rw [wanted_of fr rfl rfl rfl]; rfl) rfl hzB (s_field rfl rfl (by decide)) ?_; refine e_takeT 12 rfl (by kernel_rfl) (by kernel_rfl) (by kernel_rfl) 40 (by kernel_rfl) (by kernel_rfl) (fun _ fr => by rw [wanted_of fr rfl rfl rfl]; rfl) rfl hzB (s_ld rfl (.own meA rfl)) ?_; refine eO 13 rfl ?_; refine oY ?_; refine o_call (hnx up ({ s with S := s.S.tick } : BkS) j b S' RST FST hup hj hE2 hnt hz) rfl rfl rfl pkA (fun w st => hw.out st (hin_cons meA (hin_cons meA (hin_cons meA (hin_cons meA (hin_app hiA hiA)))))) (fun v97 S97 ⟨s2, hv97, hS97, hR2, hF2, he2⟩ => ?_); subst hv97
      subst hS97; refine o_nil ?_; refine x_oneL rfl ?_; refine eO 14 rfl ?_; refine oS sT (o_nil ?_); refine x_oneL rfl ?_; refine eO 15 rfl (oA (o_nil ?_)); refine x_oneL rfl ?_; refine eZ hK15 (c_ret ?_); refine x_block_ret (x_then_ret (?_))
      refine x_sub (Sub.refl _) (H' := ((K.obj s2) :: K.tl s2)) hzB ?_; exact xR rfl rfl (⟨s2, rfl, rfl, hR2, hF2, he2⟩)
     ·obtain ⟨_, rfl, rfl⟩ := hlf.resolve_right fun h => hil (by have : i = K.w.length := h.1; omega)
      refine eP 7 rfl eqF ?_; refine eP 8 rfl sM ?_; refine eS 9 rfl (eS 10 rfl (eS 11 rfl (eS 12 rfl (eO 13 rfl ?_)))); refine oN (o_nil ?_); refine x_oneL rfl ?_; refine eO 14 rfl ?_; refine oS sP (o_nil ?_); refine x_oneL rfl ?_; refine eO 15 rfl (oA (o_nil ?_)); refine x_oneL rfl ?_; refine eZ hK15 (c_ret ?_); refine x_block_ret (x_then_ret (?_))
      refine x_sub (Sub.refl _) (H' := ((K.obj ({ s with S := s.S.tick } : BkS)) :: K.tl ({ s with S := s.S.tick } : BkS))) hzB ?_; exact xR rfl rfl (⟨({ s with S := s.S.tick } : BkS), rfl, rfl, RST, FST, rfl⟩)
    ·refine oS (eqF (h := o3)) ?_; refine oA (oZ hK14 ?_); refine cF (cR fun _ hK16 => ?_)
     by_cases o8 : x.op = 8
     ·have hlf := hE.iLeaf hx (.inr (.inr (.inr o8)))
      obtain ⟨hg1, hg2⟩ := hK.r8 x hxm o8
      obtain ⟨old, hold⟩ : ∃ y, s.S.cs[x.n.toNat]? = some y := gE
      refine oS (eqT (h := o8)) ?_; refine oA (oZ hK16 ?_); refine cT (c_seq fun _ hK17 => ?_); refine c_drawE ((b6, .cells [.int .i64 (i : Nat), .int .i64 (j : Nat)].toArray 40 (0, 0)) :: ((K.obj ({ s with S := s.S.tick } : BkS)) :: K.tl ({ s with S := s.S.tick } : BkS))) (fun i => Nat.beq i 11) ?_; refine eP 0 rfl sM ?_; refine eP 1 rfl sN ?_; refine eP 2 rfl sF ?_; refine eK 3 rfl sL ?_; refine eP 4 rfl sM ?_; refine eP 5 rfl sN ?_; refine eP 6 rfl sF ?_; refine eK 7 rfl (s_ld rfl ((RdK.old hw.d1 hw.a1).ld at_ 5 hx rfl (by decide) (by omega))) ?_; refine eK 8 rfl (s_idx rfl rfl hsp (by omega)) ?_; refine eK 9 rfl (s_ldB rfl ((hR.sp.rdk hiA).cels hold) lnA) ?_; refine eO 10 rfl ?_; refine o_alloc (l := Esp ⟨0, 0⟩) rfl rfl fun b10 => ?_; refine oX (eO 11 rfl ?_); refine o_stW rfl rfl upA lnA lnA onA ?_; refine o_nil ?_; refine x_oneL rfl ?_; refine eZ hK17 (c_seq fun _ hK18 => ?_); refine c_drawE ((b10, .cells (Esp old).toArray 40 (0, 0)) :: (b6, .cells [.int .i64 (i : Nat), .int .i64 (j : Nat)].toArray 40 (0, 0)) :: ((K.obj ({ s with S := s.S.tick } : BkS)) :: K.tl ({ s with S := s.S.tick } : BkS))) (fun i => Nat.beq i 29 || Nat.beq i 30 || Nat.beq i 31) ?_
      refine e_takeT 0 rfl (by kernel_rfl) (by kernel_rfl) (by kernel_rfl) 40 (by kernel_rfl) (by kernel_rfl) (fun _ _ => rfl) rfl hzB (s_ldB rfl (RdPK.cels (.own meA)) lnA) ?_; refine e_takeT 1 rfl (by kernel_rfl) (by kernel_rfl) (by kernel_rfl) 40 (by kernel_rfl) (by kernel_rfl) (fun _ _ => rfl) rfl hzB (s_ldB (cs := Esp noS) rfl ((RdPK.old hw.g hw.ga).cels) rfl) ?_
      by_cases hno : ¬ old = noS
      ·obtain ⟨q1, q2, q3⟩ := (hF.sp old (List.mem_of_getElem? hold)).resolve_left hno
       have q3 : old.to ≤ K.w.length := q3
       have hlf := hlf
       rw [good8 o8 hold q1] at hlf
       have hw1l : ((K.w.drop old.fr.toNat).take (old.to.toNat - old.fr.toNat)).length = old.to.toNat - old.fr.toNat := by rw [List.length_take, List.length_drop]; omega
       have hw2l : ((K.w.drop i).take (j - i)).length = j - i := by rw [List.length_take, List.length_drop]; omega
       refine eP 2 rfl (step_cast (v' := .bool true) (s_neq_sp rfl rfl) (by rw [decide_eq_false hno]; rfl)) ?_; refine eP 3 rfl sM ?_; refine e_takeT 4 rfl (by kernel_rfl) (by kernel_rfl) (by kernel_rfl) 40 (by kernel_rfl) (by kernel_rfl) (fun _ fr => by rw [wanted_of fr rfl rfl rfl]; rfl) rfl hzB (s_move rfl) ?_; refine e_takeT 5 rfl (by kernel_rfl) (by kernel_rfl) (by kernel_rfl) 40 (by kernel_rfl) (by kernel_rfl) (fun _ fr => by rw [wanted_of fr rfl rfl rfl]; rfl) rfl hzB (s_nil rfl) ?_; refine e_takeT 6 rfl (by kernel_rfl) (by kernel_rfl) (by kernel_rfl) 40 (by kernel_rfl) (by kernel_rfl) (fun _ fr => by rw [wanted_of fr rfl rfl rfl]; rfl) rfl hzB (s_field rfl rfl (by decide)) ?_; refine e_takeT 7 rfl (by kernel_rfl) (by kernel_rfl) (by kernel_rfl) 40 (by kernel_rfl) (by kernel_rfl) (fun _ fr => by rw [wanted_of fr rfl rfl rfl]; rfl) rfl hzB (s_ld rfl (.own meA rfl)) ?_; refine e_takeT 8 rfl (by kernel_rfl) (by kernel_rfl) (by kernel_rfl) 40 (by kernel_rfl) (by kernel_rfl) (fun _ fr => by rw [wanted_of fr rfl rfl rfl]; rfl) rfl hzB (s_field rfl rfl (by decide)) ?_; refine e_takeT 9 rfl (by kernel_rfl) (by kernel_rfl) (by kernel_rfl) 40 (by kernel_rfl) (by kernel_rfl) (fun _ fr => by rw [wanted_of fr rfl rfl rfl]; rfl) rfl hzB (s_ld rfl (.own meA rfl)) ?_; refine e_takeT 10 rfl (by kernel_rfl) (by kernel_rfl) (by kernel_rfl) 40 (by kernel_rfl) (by kernel_rfl) (fun _ fr => by rw [wanted_of fr rfl rfl rfl]; rfl) rfl hzB (s_field rfl rfl (by decide)) ?_; refine e_takeT 11 rfl (by kernel_rfl) (by kernel_rfl) (by kernel_rfl) 40 (by kernel_rfl) (by kernel_rfl) (fun _ fr => by rw [wanted_of fr rfl rfl rfl]; rfl) rfl hzB (s_ld rfl (.own meA rfl)) ?_; refine e_takeT 12 rfl (by kernel_rfl) (by kernel_rfl) (by kernel_rfl) 40 (by kernel_rfl) (by kernel_rfl) (fun _ fr => by rw [wanted_of fr rfl rfl rfl]; rfl) rfl hzB (step_cast (v' := .slice (midA K.ta K.tc old.fr.toNat 1) ((K.w.drop old.fr.toNat).take (old.to.toNat - old.fr.toNat)).length (K.tc - old.fr.toNat)) (s_slice_mid rfl rfl rfl (by omega)) (by rw [hw1l])) ?_
       refine e_takeT 13 rfl (by kernel_rfl) (by kernel_rfl) (by kernel_rfl) 40 (by kernel_rfl) (by kernel_rfl) (fun _ fr => by rw [wanted_of fr rfl rfl rfl]; rfl) rfl hzB (s_move rfl) ?_; refine e_takeT 14 rfl (by kernel_rfl) (by kernel_rfl) (by kernel_rfl) 40 (by kernel_rfl) (by kernel_rfl) (fun _ fr => by rw [wanted_of fr rfl rfl rfl]; rfl) rfl hzB (s_nil rfl) ?_; refine e_takeT 15 rfl (by kernel_rfl) (by kernel_rfl) (by kernel_rfl) 40 (by kernel_rfl) (by kernel_rfl) (fun _ fr => by rw [wanted_of fr rfl rfl rfl]; rfl) rfl hzB (s_field rfl rfl (by decide)) ?_; refine e_takeT 16 rfl (by kernel_rfl) (by kernel_rfl) (by kernel_rfl) 40 (by kernel_rfl) (by kernel_rfl) (fun _ fr => by rw [wanted_of fr rfl rfl rfl]; rfl) rfl hzB (s_ld rfl (.own meA rfl)) ?_; refine e_takeT 17 rfl (by kernel_rfl) (by kernel_rfl) (by kernel_rfl) 40 (by kernel_rfl) (by kernel_rfl) (fun _ fr => by rw [wanted_of fr rfl rfl rfl]; rfl) rfl hzB (s_field rfl rfl (by decide)) ?_; refine e_takeT 18 rfl (by kernel_rfl) (by kernel_rfl) (by kernel_rfl) 40 (by kernel_rfl) (by kernel_rfl) (fun _ fr => by rw [wanted_of fr rfl rfl rfl]; rfl) rfl hzB (s_ld rfl (.own meA rfl)) ?_; refine e_takeT 19 rfl (by kernel_rfl) (by kernel_rfl) (by kernel_rfl) 40 (by kernel_rfl) (by kernel_rfl) (fun _ fr => by rw [wanted_of fr rfl rfl rfl]; rfl) rfl hzB (s_field rfl rfl (by decide)) ?_; refine e_takeT 20 rfl (by kernel_rfl) (by kernel_rfl) (by kernel_rfl) 40 (by kernel_rfl) (by kernel_rfl) (fun _ fr => by rw [wanted_of fr rfl rfl rfl]; rfl) rfl hzB (s_ld rfl (.own meA rfl)) ?_; refine e_takeT 21 rfl (by kernel_rfl) (by kernel_rfl) (by kernel_rfl) 40 (by kernel_rfl) (by kernel_rfl) (fun _ fr => by rw [wanted_of fr rfl rfl rfl]; rfl) rfl hzB (step_cast (v' := .slice (midA K.ta K.tc i 1) ((K.w.drop i).take (j - i)).length (K.tc - i)) (s_slice_mid rfl rfl rfl (by omega)) (by rw [hw2l]; simp only [Int.toNat_natCast])) ?_
       refine eO 22 rfl ?_; refine oY ?_; refine o_callP (bEqual_fn (midA K.ta K.tc old.fr.toNat 1) (K.tc - old.fr.toNat) ((K.w.drop old.fr.toNat).take (old.to.toNat - old.fr.toNat)) (midA K.ta K.tc i 1) (K.tc - i) ((K.w.drop i).take (j - i))) rfl rfl rfl (fun w st => ⟨((RdK.old hw.d2 hw.a2).out w st).mid old.fr.toNat old.to.toNat (by omega) (by omega), ((RdK.old hw.d2 hw.a2).out w st).mid i j hij hj⟩) (fun v133 hv133 => ?_); subst hv133
       cases hq : decide (((K.w.drop old.fr.toNat).take (old.to.toNat - old.fr.toNat)) = ((K.w.drop i).take (j - i)))
       ·obtain ⟨_, rfl, rfl⟩ := hlf.resolve_right fun h => (of_decide_eq_false hq) h.1.2
        refine oX ?_; refine eP 23 rfl sT ?_; refine eP 24 rfl sM ?_; refine eS 25 rfl (eS 26 rfl (eS 27 rfl (eS 28 rfl (eO 29 rfl ?_)))); refine oN (o_nil ?_); refine x_oneL rfl ?_; refine eO 30 rfl ?_; refine oS sP (o_nil ?_); refine x_oneL rfl ?_; refine eO 31 rfl (oA (o_nil ?_)); refine x_oneL rfl ?_; refine eZ hK18 (c_ret ?_); refine x_block_ret (x_then_ret (?_))
        refine x_sub (Sub.refl _) (H' := ((K.obj ({ s with S := s.S.tick } : BkS)) :: K.tl ({ s with S := s.S.tick } : BkS))) hzB ?_; exact xR rfl rfl (⟨({ s with S := s.S.tick } : BkS), rfl, rfl, RST, FST, rfl⟩)
       ·have hE2 := (hlf.resolve_left fun h => h.1 ⟨hno, of_decide_eq_true hq⟩).2
        refine oX ?_; refine eP 23 rfl sT ?_; refine eP 24 rfl sM ?_; refine e_takeT 25 rfl (by kernel_rfl) (by kernel_rfl) (by kernel_rfl) 40 (by kernel_rfl) (by kernel_rfl) (fun _ fr => by rw [wanted_of fr rfl rfl rfl]; rfl) rfl hzB (s_move rfl) ?_; refine e_takeT 26 rfl (by kernel_rfl) (by kernel_rfl) (by kernel_rfl) 40 (by kernel_rfl) (by kernel_rfl) (fun _ fr => by rw [wanted_of fr rfl rfl rfl]; rfl) rfl hzB (s_move rfl) ?_; refine e_takeT 27 rfl (by kernel_rfl) (by kernel_rfl) (by kernel_rfl) 40 (by kernel_rfl) (by kernel_rfl) (fun _ fr => by rw [wanted_of fr rfl rfl rfl]; rfl) rfl hzB (s_field rfl rfl (by decide)) ?_; refine e_takeT 28 rfl (by kernel_rfl) (by kernel_rfl) (by kernel_rfl) 40 (by kernel_rfl) (by kernel_rfl) (fun _ fr => by rw [wanted_of fr rfl rfl rfl]; rfl) rfl hzB (s_ld rfl (.own meA rfl)) ?_; refine eO 29 rfl ?_; refine oY ?_; refine o_call (hnx up ({ s with S := s.S.tick } : BkS) j b S' RST FST hup hj hE2 hnt hz) rfl rfl rfl pkA (fun w st => hw.out st (hin_cons meA (hin_cons meA (hin_cons meA (hin_cons meA (hin_app hiA hiA)))))) (fun v140 S140 ⟨s2, hv140, hS140, hR2, hF2, he2⟩ => ?_); subst hv140
        subst hS140; refine o_nil ?_; refine x_oneL rfl ?_; refine eO 30 rfl ?_; refine oS sT (o_nil ?_); refine x_oneL rfl ?_; refine eO 31 rfl (oA (o_nil ?_)); refine x_oneL rfl ?_; refine eZ hK18 (c_ret ?_); refine x_block_ret (x_then_ret (?_))
        refine x_sub (Sub.refl _) (H' := ((K.obj s2) :: K.tl s2)) hzB ?_; exact xR rfl rfl (⟨s2, rfl, rfl, hR2, hF2, he2⟩)
      ·have hold0 : s.S.cs[x.n.toNat]? = some noS := by rw [hold, Decidable.not_not.1 hno]
       obtain ⟨_, rfl, rfl⟩ := hlf.resolve_right fun h => good8n o8 hold0 h.1
       refine eP 2 rfl (step_cast (v' := .bool false) (s_neq_sp rfl rfl) (by rw [decide_eq_true (Decidable.not_not.1 hno)]; rfl)) ?_; refine eP 3 rfl sM ?_; refine eS 4 rfl (eS 5 rfl (eS 6 rfl (eS 7 rfl (eS 8 rfl (eS 9 rfl (eS 10 rfl (eS 11 rfl (eS 12 rfl (eS 13 rfl (eS 14 rfl (eS 15 rfl (eS 16 rfl (eS 17 rfl (eS 18 rfl (eS 19 rfl (eS 20 rfl (eS 21 rfl (eO 22 rfl ?_)))))))))))))))))); refine oN (oX ?_); refine eP 23 rfl sP ?_; refine eP 24 rfl sM ?_; refine eS 25 rfl (eS 26 rfl (eS 27 rfl (eS 28 rfl (eO 29 rfl ?_)))); refine oN (o_nil ?_); refine x_oneL rfl ?_; refine eO 30 rfl ?_; refine oS sP (o_nil ?_); refine x_oneL rfl ?_; refine eO 31 rfl (oA (o_nil ?_)); refine x_oneL rfl ?_; refine eZ hK18 (c_ret ?_); refine x_block_ret (x_then_ret (?_))
       refine x_sub (Sub.refl _) (H' := ((K.obj ({ s with S := s.S.tick } : BkS)) :: K.tl ({ s with S := s.S.tick } : BkS))) hzB ?_; exact xR rfl rfl (⟨({ s with S := s.S.tick } : BkS), rfl, rfl, RST, FST, rfl⟩)
     ·refine oS (eqF (h := o8)) ?_; refine oA (oZ hK16 ?_); refine cF (cR fun _ hK19 => ?_)
      by_cases o5 : x.op = 5
      ·have hA := hE.iAltT hx o5
       rw [show x.kids.toNat = ks.num by omega] at hA
       refine oS (eqT (h := o5)) ?_; refine oA (oZ hK19 ?_); refine cT (cR fun _ hK20 => ?_); refine oM ?_; refine oS (step_cast (v' := .int .i64 (((at_ + 1) : Nat) : Int)) (s_add rfl rfl (by omega)) (congrArg _ (by omega))) ?_; refine oA (oZ hK20 (c_seq fun _ hK21 => ?_)); refine cR fun _ hK22 => ?_; refine oM ?_; refine oS sN ?_; refine oS sF ?_; refine oS (s_ld rfl ((RdK.old hw.d1 hw.a1).ld at_ 8 hx rfl (by decide) (by omega))) ?_; refine oM (oZ hK22 (c_block ?_))
       refine c_loop4 (fun (q : BkS) (m : Nat) (kid : Nat) (g : F) => K.Rep q ∧ Fin K.sr q.S ∧ Part K.re g kid (at_ + 1 + ks.size) ∧ (m : Int) + g.num = x.kids ∧ Ev K.sr q.S (.alt kid g.num i j up) b S' ∧ q.S.fuel ≤ n ∧ up ≤ q.S.fs.length) (fun (q : BkS) (m : Nat) (kid : Nat) (g : F) => [(150, .int .i64 m), (11, .int .i64 kid)]) [(0, _), (1, _), (3, _), (6, _), (149, _)] (fun (q : BkS) (m : Nat) (kid : Nat) (g : F) => (b6, .cells [.int .i64 (i : Nat), .int .i64 (j : Nat)].toArray 40 (0, 0)) :: ((K.obj q) :: K.tl q)) (fun (q : BkS) (m : Nat) (kid : Nat) (g : F) => g.num) ({ s with S := s.S.tick } : BkS) 0 (at_ + 1) ks ⟨RST, FST, hp0.head.2.1, by omega, hA, hnt, hup⟩ sbA sbA hzB ?_
       rintro q m kid g ⟨hRq, hFq, hpg, hmg, hEl, hnq, hupq⟩
       refine cR fun _ hK23 => ?_
       by_cases hmk : (m : Int) < x.kids
       ·obtain ⟨y, js, r, rfl⟩ : ∃ y js r, g = F.nd y js r := by cases g with | nil => simp only [F.num] at hmg; omega | nd y a c => exact ⟨y, a, c, rfl⟩
        simp only [F.num] at hEl hmg
        obtain ⟨b1, S2, hT, hc⟩ := hEl.iAlt
        have hkl := (List.getElem?_eq_some_iff.1 hpg.head.1).1
        obtain ⟨hbl2, hbh2, hble2⟩ := hK.beh hpg
        rw [hbh2] at hc
        have hz2 : Sz S2 := by rcases hc with ⟨_, _, h⟩ | ⟨_, h⟩ <;> first | (rw [← h]; exact hz) | exact hz.gr h.mono
        have hTm := hT.mono
        have hT1 := hTm.fuel
        have hT2 := hTm.fs
        refine oS lsT (oZ hK23 (c_seq fun _ hK24 => ?_)); refine cTZ hK24 (c_seq fun _ hK25 => ?_); refine c_block (c_seq fun _ hK26 => ?_); refine cR fun _ hK27 => ?_; refine oM (oM ?_); refine oS (s_ldB rfl (RdPK.cels (.own meA)) lnA) ?_; refine oM ?_; refine o_call (hTk q kid i j up b1 S2 hRq hFq hkl hij hj hupq hT hnq hz2) rfl rfl rfl pkA (fun w st => hw.out st (hin_cons meA (hin_cons meA (hin_cons meA (hin_cons meA (hin_app hiA hiA)))))) (fun v156 S156 ⟨s2, hv156, hS156, hR2, hF2, he2⟩ => ?_); subst hv156
        subst hS156
        cases b1
        ·subst he2
         have hEl2 := (hc.resolve_left fun h => (by cases h.1)).2
         refine oZ hK27 ?_; refine cFZ hK26 (c_region (oM ?_)); refine oS sN ?_; refine oS sF ?_; refine oS sL (oM ?_); refine oS (s_idx rfl rfl hsb (by omega)) ?_; refine oS (s_ld rfl ((RdK.old hw.d3 hw.a3).ld kid 0 hbl2 rfl (by decide) (by omega))) ?_; refine oA (o_nil (x_block (xZ hK25 (c_region ?_)))); refine oS sD (oM (o_nil ?_)); exact x_then (x_inv (s2, m + 1, kid + 1 + js.size, r) ⟨hR2, hF2, hpg.head.2.2, by dsimp only; omega, hEl2, by dsimp only; omega, by dsimp only; omega⟩ (by simp only [F.num]; omega) sbA hzB)
        ·subst he2
         obtain ⟨rfl, rfl⟩ := (hc.resolve_right fun h => (by cases h.1)).2
         refine oZ hK27 ?_; refine cT (cR fun _ hK28 => ?_); refine oA (oZ hK28 (c_ret ?_)); refine x_then_ret (x_block_ret (x_then_ret (x_then_ret (x_block_ret (x_then_ret (x_block_ret (x_then_ret (?_))))))))
         refine x_sub (Sub.refl _) (H' := ((K.obj s2) :: K.tl s2)) hzB ?_; exact xR rfl rfl (⟨s2, rfl, rfl, hR2, hF2, rfl⟩)
       ·have hg0 : g.num = 0 := by omega
        rw [hg0] at hEl
        obtain ⟨rfl, rfl⟩ := hEl.iAlt0
        refine oS lsF (oZ hK23 (c_seq fun _ hK29 => ?_)); refine cF ?_; refine c_exit ?_; refine x_then_exit (x_then_exit (x_block_exit (xZ hK21 (cR fun _ hK30 => ?_)))); refine oA (oZ hK30 (c_ret ?_)); refine x_block_ret (x_then_ret (?_))
        refine x_sub (Sub.refl _) (H' := ((K.obj q) :: K.tl q)) hzB ?_; exact xR rfl rfl (⟨q, rfl, rfl, hRq, hFq, rfl⟩)
      ·refine oS (eqF (h := o5)) ?_; refine oA (oZ hK19 ?_); refine cF (cR fun _ hK31 => ?_)
       by_cases o4 : x.op = 4
       ·obtain ⟨u, S2, hp, hE2⟩ := hE.iCat hx o4
        have hz1 := hz.gr hE2.mono
        have hpg := push_gr hp
        have hpg1 := hpg.fuel
        have hfn : FrOk K.sr (⟨up, at_, at_ + 1, x.kids.toNat, i, j⟩ : Frm) := ⟨x, ks, e0, hp0, hj, .inl ⟨o4, ks, _, hp0.head.2.1, by show ks.num = x.kids.toNat; omega⟩⟩
        refine oS (eqT (h := o4)) ?_; refine oA (oZ hK31 ?_); refine cT (c_seq fun _ hK32 => ?_); refine c_drawE ([(b6, .cells [.int .i64 (i : Nat), .int .i64 (j : Nat)].toArray 40 (0, 0))]) (fun i => false) ?_; refine eP 0 rfl sM ?_; refine eP 1 rfl sM ?_; refine eP 2 rfl sM ?_; refine eP 3 rfl sM ?_; refine eP 4 rfl sM ?_; refine eP 5 rfl (step_cast (v' := .int .i64 (((at_ + 1) : Nat) : Int)) (s_add rfl rfl (by omega)) (congrArg _ (by omega))) ?_; refine eP 6 rfl sM ?_; refine eP 7 rfl sN ?_; refine eP 8 rfl sF ?_; refine eK 9 rfl (step_cast (v' := .int .i64 ((x.kids.toNat : Nat) : Int)) (s_ld rfl ((RdK.old hw.d1 hw.a1).ld at_ 8 hx rfl (by decide) (by omega))) (congrArg _ (by omega))) ?_; refine eK 10 rfl (s_ldB rfl (RdPK.cels (.own meA)) lnA) ?_; refine eP 11 rfl (s_build (cs := [_, _, _, _, _, _]) (vs := [_, _, _, _, _]) rfl rfl (.cons rfl rfl rfl rfl rfl (.cons rfl rfl rfl rfl rfl (.cons rfl rfl rfl rfl rfl (.cons rfl rfl rfl rfl rfl (.cons rfl rfl rfl rfl rfl (.nil))))))) ?_; refine eP 13 rfl sF ?_; refine eK 14 rfl sL (eO 12 rfl ?_); refine o_call (pushB_fn K ({ s with S := s.S.tick } : BkS) RST FST (⟨up, at_, at_ + 1, x.kids.toNat, i, j⟩ : Frm) hfn hup u S2 hp hz1) rfl rfl rfl pkA (fun _ _ => trivial) (fun v179 S179 ⟨s1, hv179, hS179, hR1, hF1, he1, hu1, hu2⟩ => ?_); subst hv179
        subst hS179; refine oX (eO 15 rfl ?_); refine o_call (hnx u s1 i b S' hR1 hF1 hu2 (by omega) (by rw [he1]; exact hE2) (by rw [he1]; exact Nat.le_trans hpg1 hnt) hz) rfl rfl rfl pkA (fun w st => hw.out st (hin_cons meA (hin_cons meA (hin_cons meA (hin_cons meA (hin_app hiA hiA)))))) (fun v182 S182 ⟨s2, hv182, hS182, hR2, hF2, he2⟩ => ?_); subst hv182
        subst hS182; refine oX (eO 16 rfl (oA (oX (eZ hK32 (c_ret ?_))))); refine x_block_ret (x_then_ret (?_))
        refine x_sub (Sub.refl _) (H' := ((K.obj s2) :: K.tl s2)) hzB ?_; exact xR rfl rfl (⟨s2, rfl, rfl, hR2, hF2, he2⟩)
       ·refine oS (eqF (h := o4)) ?_; refine oA (oZ hK31 ?_); refine cF (cR fun _ hK33 => ?_)
        by_cases o6 : x.op = 6
        ·obtain ⟨u, S2, hp, hE2⟩ := hE.iRep hx o6
         have hz1 := hz.gr hE2.mono
         have hpg := push_gr hp
         have hpg1 := hpg.fuel
         have hfn : FrOk K.sr (⟨up, at_, 0, 0, 0, j⟩ : Frm) := ⟨x, ks, e0, hp0, hj, .inr (.inl ⟨o6, Nat.zero_le _⟩)⟩
         refine oS (eqT (h := o6)) ?_; refine oA (oZ hK33 ?_); refine cT (c_seq fun _ hK34 => ?_); refine c_drawE ([(b6, .cells [.int .i64 (i : Nat), .int .i64 (j : Nat)].toArray 40 (0, 0))]) (fun i => false) ?_; refine eP 0 rfl sM ?_; refine eP 1 rfl sM ?_; refine eP 2 rfl sM ?_; refine eP 3 rfl sM ?_; refine eP 4 rfl sF ?_; refine eK 5 rfl sL ?_; refine eP 6 rfl (s_build (cs := [_, _]) (vs := [_]) rfl rfl (.cons rfl rfl rfl rfl rfl (.nil))) ?_; refine eP 7 rfl (s_build (cs := [_, _, _, _, _, _]) (vs := [_, _, _]) rfl rfl (.cons rfl rfl rfl rfl rfl (.cons rfl rfl rfl rfl rfl (.cons rfl rfl rfl rfl rfl (.nil))))) ?_; refine eP 9 rfl sF ?_; refine eK 10 rfl sL (eO 8 rfl ?_); refine o_call (pushB_fn K ({ s with S := s.S.tick } : BkS) RST FST (⟨up, at_, 0, 0, 0, j⟩ : Frm) hfn hup u S2 hp hz1) rfl rfl rfl pkA (fun _ _ => trivial) (fun v193 S193 ⟨s1, hv193, hS193, hR1, hF1, he1, hu1, hu2⟩ => ?_); subst hv193
         subst hS193; refine oX (eO 11 rfl ?_); refine o_call (hnx u s1 i b S' hR1 hF1 hu2 (by omega) (by rw [he1]; exact hE2) (by rw [he1]; exact Nat.le_trans hpg1 hnt) hz) rfl rfl rfl pkA (fun w st => hw.out st (hin_cons meA (hin_cons meA (hin_cons meA (hin_cons meA (hin_app hiA hiA)))))) (fun v196 S196 ⟨s2, hv196, hS196, hR2, hF2, he2⟩ => ?_); subst hv196
         subst hS196; refine oX (eO 12 rfl (oA (oX (eZ hK34 (c_ret ?_))))); refine x_block_ret (x_then_ret (?_))
         refine x_sub (Sub.refl _) (H' := ((K.obj s2) :: K.tl s2)) hzB ?_; exact xR rfl rfl (⟨s2, rfl, rfl, hR2, hF2, he2⟩)
        ·have o7 : x.op = 7 := by omega
         obtain ⟨y, js, rfl⟩ := one_kid hp0.wf (.inr o7)
         have hkl := (List.getElem?_eq_some_iff.1 hp0.head.2.1.head.1).1
         obtain ⟨u, S2, S3, hp, hT, hS3⟩ := hE.iGrp hx o7
         rw [hbh] at hp hS3
         have hz3 : Sz S3 := by rw [hS3] at hz; cases b <;> first | exact hz | exact ⟨hz.1, hz.2⟩
         have hz1 := hz3.gr hT.mono
         have hTm := hT.mono
         have hT1 := hTm.fuel
         have hpg := push_gr hp
         have hpg1 := hpg.fuel
         have hfn : FrOk K.sr (⟨up, at_, 0, 0, i, j⟩ : Frm) := ⟨x, _, e0, hp0, hj, .inr (.inr ⟨o7, hij⟩)⟩
         refine oS (eqF (h := o6)) ?_; refine oA (oZ hK33 ?_); refine cF (c_skip (x_block (xZ hK8 (cR fun _ hK35 => ?_)))); refine oM (oM ?_); refine oS (step_cast (v' := .int .i64 (((at_ + 1) : Nat) : Int)) (s_add rfl rfl (by omega)) (congrArg _ (by omega))) ?_; refine oM ?_; refine oS sN ?_; refine oS sF ?_; refine oS sL (oM ?_); refine oS (s_idx rfl rfl hsb (by omega)) ?_; refine oS (s_ld rfl ((RdK.old hw.d3 hw.a3).ld at_ 0 hbl rfl (by decide) (by omega))) ?_; refine o_call (emptiedB_fn K ({ s with S := s.S.tick } : BkS) hrl RST.sp RST.cl hK.N hK.g7 (at_ + 1) (at_ + 1 + (F.nd y js .nil).size) (by omega) hble) rfl rfl rfl ((Pick.takeC pkA pkA)) (fun w st => hw.out st (hin_cons meA hiA)) (fun v207 S207 ⟨la, lc, Sl, Ss207, hv207, hS207, hOl, hO207⟩ => ?_)
         subst hv207; subst hS207
         refine oA (oZ hK35 (c_seq fun _ hK36 => ?_)); refine c_seq fun _ hK37 => ?_; refine c_drawE ([(b6, .cells [.int .i64 (i : Nat), .int .i64 (j : Nat)].toArray 40 (0, 0))]) (fun i => false) ?_; refine eP 0 rfl sM ?_; refine eP 1 rfl sM ?_; refine eP 2 rfl (step_cast (v' := .int .i64 (((at_ + 1) : Nat) : Int)) (s_add rfl rfl (by omega)) (congrArg _ (by omega))) ?_; refine eK 3 rfl (s_ldB rfl (RdPK.cels (.own meA)) lnA) ?_; refine eP 4 rfl sM ?_; refine eP 5 rfl sM ?_; refine eP 6 rfl sM ?_; refine eK 7 rfl (s_ldB rfl (RdPK.cels (.own meA)) lnA) ?_; refine eP 8 rfl (s_build (cs := [_, _, _, _, _, _]) (vs := [_, _, _]) rfl rfl (.cons rfl rfl rfl rfl rfl (.cons rfl rfl rfl rfl rfl (.cons rfl rfl rfl rfl rfl (.nil))))) ?_; refine eO 9 rfl ?_; refine o_call (pushB_fn K ({ s with S := { s.S.tick with cs := fgt (K.sr.inn (at_ + 1) (at_ + 1 + (F.nd y js .nil).size)) s.S.cs }, Ss := Ss207 } : BkS) ⟨hR.fr, hO207, by dsimp only; rw [fgt_len]; exact hR.cl, hR.en, hR.et, hR.el, hR.ef⟩ (FST.fgt _) (⟨up, at_, 0, 0, i, j⟩ : Frm) hfn hup u S2 hp hz1) rfl rfl rfl ((Pick.takeC pkA (Pick.takeC pkA (Pick.takeC pkA (Pick.takeC pkA pkA))))) (fun _ _ => trivial) (fun v217 S217 ⟨s1, hv217, hS217, hR1, hF1, he1, hu1, hu2⟩ => ?_); subst hv217
         subst hS217; refine oX (eO 10 rfl ?_); refine o_call (hTk s1 (at_ + 1) i j u b S3 hR1 hF1 hkl hij hj hu2 (by rw [he1]; exact hT) (by rw [he1]; exact Nat.le_trans hpg1 hnt) hz3) rfl rfl rfl pkA (fun w st => hw.out st (hin_cons meA (hin_cons meA (hin_cons meA (hin_cons meA (hin_app hiA hiA)))))) (fun v218 S218 ⟨s2, hv218, hS218, hR2, hF2, he2⟩ => ?_); subst hv218
         subst hS218
         cases b
         ·subst he2; refine oX (eZ hK37 ?_); refine cFZ hK36 (cR fun _ hK38 => ?_); refine oM (oM ?_); refine oS (step_cast (v' := .int .i64 (((at_ + 1) : Nat) : Int)) (s_add rfl rfl (by omega)) (congrArg _ (by omega))) ?_; refine oM ?_; refine oS sN ?_; refine oS sF ?_; refine oS sL (oM ?_); refine oS (s_idx rfl rfl hsb (by omega)) ?_; refine oS (s_ld rfl ((RdK.old hw.d3 hw.a3).ld at_ 0 hbl rfl (by decide) (by omega))) ?_; refine oM ?_; refine o_call (restoreB_fn K s2 hrl hR2.sp hR2.cl hK.N hK.g7 (at_ + 1) (at_ + 1 + (F.nd y js .nil).size) (by omega) hble la lc (emW (K.sr.inn (at_ + 1) (at_ + 1 + (F.nd y js .nil).size)) s.S.cs) Sl hOl (emW_len _ _)) rfl rfl rfl ((Pick.takeA pkA (Pick.takeC pkA pkA))) (fun w st => hw.out st (hin_app hiA (hin_cons meA hiA))) (fun v230 S230 ⟨Ss230, hS230, hO230⟩ => ?_)
          subst hS230; refine oZ hK38 (cR fun _ hK39 => ?_); refine oA (oZ hK39 (c_ret ?_)); refine ?_; refine x_sub (Sub.refl _) (H' := ((K.obj ({ s2 with S := { s2.S with cs := rst (K.sr.inn (at_ + 1) (at_ + 1 + (F.nd y js .nil).size)) (emW (K.sr.inn (at_ + 1) (at_ + 1 + (F.nd y js .nil).size)) s.S.cs) s2.S.cs }, Ss := Ss230 } : BkS)) :: K.tl ({ s2 with S := { s2.S with cs := rst (K.sr.inn (at_ + 1) (at_ + 1 + (F.nd y js .nil).size)) (emW (K.sr.inn (at_ + 1) (at_ + 1 + (F.nd y js .nil).size)) s.S.cs) s2.S.cs }, Ss := Ss230 } : BkS))) hzB ?_
          exact xR rfl rfl (⟨{ s2 with S := { s2.S with cs := rst (K.sr.inn (at_ + 1) (at_ + 1 + (F.nd y js .nil).size)) (emW (K.sr.inn (at_ + 1) (at_ + 1 + (F.nd y js .nil).size)) s.S.cs) s2.S.cs }, Ss := Ss230 }, rfl, rfl, ⟨hR2.fr, hO230, by dsimp only; rw [rst_len]; exact hR2.cl, hR2.en, hR2.et, hR2.el, hR2.ef⟩, hF2.rst _ (fun z hz1 => emW_ok (.inl rfl) _ _ hF.sp z hz1), by rw [hS3]; rfl⟩)
         ·subst he2; refine oX (eZ hK37 ?_); refine cT (cR fun _ hK40 => ?_); refine oA (oZ hK40 (c_ret ?_)); refine x_then_ret (?_); refine x_sub (Sub.refl _) (H' := ((K.obj s2) :: K.tl s2)) hzB ?_; exact xR rfl rfl (⟨s2, rfl, rfl, hR2, hF2, by rw [hS3]; rfl⟩)
theorem rowB_of {K : BkE} (hK : K.ok) {n v : Nat} (hN : NextB K n v) (hT : TakeB K n) : RowB K n v := fun s f x at_ b S' hR hF hf hx h4 hup hv hat hE hn hz => by
  subst hup
  exact rowK_fn K hK n s f x at_ b S' hR hF hf hx h4 hv hat hE hn hz hN hT
theorem rndB_of {K : BkE} (hK : K.ok) {n v : Nat} (hN : NextB K n v) (hT : TakeB K n) : RndB K n v := fun s f x at_ b S' hR hF hf hx h4 hup hv hat hE hn hz => by
  subst hup
  exact roundsK_fn K hK n s f x at_ b S' hR hF hf hx h4 hv hat hE hn hz hN hT
theorem nextB_of {K : BkE} (hK : K.ok) {n : Nat} (hT : TakeB K n) (u : Nat) : NextB K n u := by
  induction u using Nat.strongRecOn with
  | ind u ih =>
    intro s at_ b S' hR hF hu hat hE hn hz
    exact nextK_fn K hK n s u at_ b S' hR hF hu hat hE hn hz (fun v hv => rowB_of hK (ih v hv) hT) (fun v hv => rndB_of hK (ih v hv) hT) fun v hv => ih v hv
theorem takeB_all {K : BkE} (hK : K.ok) : ∀ n, n ≤ 9223372036854775807 → TakeB K n
  | 0, _ => fun s at_ i j up b S' hR hF hat hij hj hup hE hn hz => absurd hE.iFuel (by omega)
  | n + 1, hn => fun s at_ i j up b S' hR hF hat hij hj hup hE hf hz => takeK_fn K hK n s at_ i j up b S' hR hF hat hij hj hup hE hf (by omega) hz (nextB_of hK (takeB_all hK n (by omega))) (takeB_all hK n (by omega))
end Go.Proofs.YtopmnmigpbdddaaGreatDoor
