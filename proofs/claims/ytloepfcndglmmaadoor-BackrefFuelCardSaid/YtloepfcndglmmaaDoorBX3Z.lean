/- Back-references: a run that is whole with much fuel, with less: the same, or it runs dry. Conditions: none. -/
import Derived.Test.YtloepfcndglmmaaDoorBF5Z
namespace Go.HL.Kl.Mc
open Go Go.HL Go.HL.Kl AskE
def LgM (K : SrE) (S : SS) : SQ → Prop
  | .take _ _ _ up => up ≤ S.fs.length
  | .alt _ _ _ _ up => up ≤ S.fs.length
  | .next u _ => u ≤ S.fs.length
  | .body f _ => f.up ≤ S.fs.length ∧ VOp K f
  | .row f _ => f.up ≤ S.fs.length ∧ VOp K f
  | .rowL f u _ _ => f.up ≤ S.fs.length ∧ u ≤ S.fs.length
  | .rnd f _ => f.up ≤ S.fs.length ∧ VOp K f
  | .rndL f u _ _ => f.up ≤ S.fs.length ∧ u ≤ S.fs.length
def slQ : SQ → Nat
  | .body _ _ => 1
  | .row _ _ => 1
  | .rnd _ _ => 1
  | _ => 0
abbrev SS.fu (S : SS) (f : Nat) : SS := { S with fuel := f }
def Dr (K : SrE) (C : Nat) (S : SS) (q : SQ) (S' : SS) (sl f : Nat) : Prop := ∃ b2 S2 fs0, EvD K (S.fu f) false q b2 S2 true ∧ Dried K fs0 S2 ∧ S.fs.length ≤ fs0.length ∧ fs0.length ≤ S'.fs.length ∧ S2.ts.length ≤ S'.ts.length + C * (S'.wk - S.wk + sl) ∧ S2.cs.length = S.cs.length
theorem push_fv {K : SrE} {S S1 : SS} {f : Frm} {u : Nat} (h : S.push f = (u, S1)) (hS : FV K S) (hv : VOp K f) (hu : f.up ≤ S.fs.length) : FV K S1 ∧ u ≤ S1.fs.length ∧ S1.wk = S.wk ∧ S1.fuel = S.fuel := by
  unfold SS.push at h
  split at h
  · rename_i k hk
    cases h
    exact ⟨hS, by have := (List.getElem?_eq_some_iff.1 (fnd_some hk)).1; omega, rfl, rfl⟩
  · rename_i hn
    cases h
    refine ⟨⟨hS.ch.snoc hu, fun q hq => ?_, ?_⟩, by simp, rfl, rfl⟩
    · rcases List.mem_append.1 hq with hq | hq
      · exact hS.vo q hq
      · rw [List.mem_singleton.1 hq]; exact hv
    · exact List.nodup_append.2 ⟨hS.fn, by simp, fun a ha b hb => by
        obtain rfl := List.mem_singleton.1 hb
        intro e; subst e
        exact fnd_none hn ha⟩
theorem push_fu {S S1 : SS} {f : Frm} {u n : Nat} (h : S.push f = (u, S1)) : (S.fu n).push f = (u, S1.fu n) := by
  unfold SS.push at h ⊢
  show (match fnd f S.fs with | some k => (k + 1, S.fu n) | none => (S.fs.length + 1, { S.fu n with fs := S.fs ++ [f] })) = _
  split at h
  · rename_i k hk; cases h; rw [hk]
  · rename_i hn; cases h; rw [hn]
theorem dry_alt {K : SrE} {i j up : Nat} {S : SS} : ∀ (l kid : Nat), EvD K S true (.alt kid l i j up) false S true
  | 0, _ => .altNil
  | l + 1, kid => .altNo (.takeDry (.inr rfl)) (dry_alt l _)
theorem dry_rnd {K : SrE} {fs0 : List Frm} {S S1 S2 : SS} {f : Frm} {at_ u : Nat} {x : Nd} {b2 : Bool} (hx : K.re[f.node]? = some x) (hm : x.mx < 0 ∨ (f.kid : Int) < x.mx) (hp : S.push { f with kid := satK x f.kid } = (u, S1)) (hE : EvD K S1 false (.rndL f u at_ (ends at_ f.to)) b2 S2 true) (hD : Dried K fs0 S2) (hu : f.up ≤ fs0.length) :
    ∃ b3 S3, EvD K S false (.rnd f at_) b3 S3 true ∧ Dried K fs0 S3 ∧ S3.ts.length ≤ S2.ts.length + K.cR * (f.up + 1) ∧ S3.cs.length = S2.cs.length := by
  cases b2 with
  | true => exact ⟨true, S2, .rndYes hx hm hp hE, hD, Nat.le_add_right _ _, rfl⟩
  | false =>
    by_cases he : at_ = f.to ∧ x.mn ≤ (f.kid : Int)
    · obtain ⟨b3, S3, h1, h2, h3, h4⟩ := dry_next f.up hu S2 at_ hD
      exact ⟨b3, S3, .rndEnd hx hm hp hE he h1, h2, h3, h4⟩
    · exact ⟨false, S2, .rndNo hx hm hp hE he, hD, Nat.le_add_right _ _, rfl⟩
def SimF (K : SrE) (C : Nat) (S : SS) (q : SQ) (b : Bool) (S' : SS) (sl : Nat) : Prop :=
  FV K S' ∧ (∀ f, S.fuel ≤ f + S'.fuel → EvD K (S.fu f) false q b (S'.fu (f + S'.fuel - S.fuel)) false) ∧ (∀ f, f + S'.fuel < S.fuel → Dr K C S q S' sl f)
theorem mulC {C a b : Nat} (h : a ≤ b) : C * a ≤ C * b := Nat.mul_le_mul_left _ h
section
variable {K : SrE} {C : Nat}
theorem SimF.lift {S S0 S1 S' : SS} {q q0 : SQ} {b b' : Bool} {sl sl0 sx t : Nat} (h : SimF K C S0 q0 b S1 sl0) (hF : FV K S') (hfu : S'.fuel = S1.fuel) (hfl : S1.fs.length ≤ S'.fs.length) (hts : S1.ts.length ≤ S'.ts.length) (hwk : S1.wk ≤ S'.wk) (hm : S0.wk ≤ S1.wk) (hmf : S1.fuel ≤ S0.fuel) (h0 : S0.fuel + t = S.fuel) (hw : S.wk + sl0 + sx ≤ S0.wk + sl) (hfs : S.fs.length ≤ S0.fs.length) (hcs : S0.cs.length = S.cs.length)
    (live : ∀ f g, EvD K (S0.fu f) false q0 b (S1.fu g) false → EvD K (S.fu (f + t)) false q b' (S'.fu g) false)
    (dry : ∀ f b2 S2 fs0, EvD K (S0.fu f) false q0 b2 S2 true → Dried K fs0 S2 → S.fs.length ≤ fs0.length → fs0.length ≤ S'.fs.length → ∃ b3 S3, EvD K (S.fu (f + t)) false q b3 S3 true ∧ Dried K fs0 S3 ∧ S3.ts.length ≤ S2.ts.length + C * sx ∧ S3.cs.length = S2.cs.length)
    (z : ∀ f, f < t → Dr K C S q S' sl f) : SimF K C S q b' S' sl := by
  obtain ⟨a1, a2, a3⟩ := h
  refine ⟨hF, fun f hf => ?_, fun f hf => ?_⟩
  · obtain ⟨f', rfl⟩ : ∃ f', f = f' + t := ⟨f - t, by omega⟩
    have := live _ _ (a2 f' (by omega))
    rw [show f' + t + S'.fuel - S.fuel = f' + S1.fuel - S0.fuel by omega]
    exact this
  · by_cases ht : f < t
    · exact z f ht
    · obtain ⟨f', rfl⟩ : ∃ f', f = f' + t := ⟨f - t, by omega⟩
      obtain ⟨b2, S2, fs0, c1, c2, c3, c4, c5, c6⟩ := a3 f' (by omega)
      obtain ⟨b3, S3, d1, d2, d3, d4⟩ := dry f' b2 S2 fs0 c1 c2 (by omega) (by omega)
      refine ⟨b3, S3, fs0, d1, d2, by omega, by omega, ?_, by rw [d4, c6, hcs]⟩
      have h1 : C * (S1.wk - S0.wk + sl0) + C * sx ≤ C * (S'.wk - S.wk + sl) := by rw [← Nat.mul_add]; exact mulC (by omega)
      omega
theorem SimF.seq {S S0 S1 Sx S' : SS} {q q1 q2 : SQ} {b1 b : Bool} {sl sl1 sx : Nat} (h : SimF K C S0 q1 b1 S1 sl1) (h' : SimF K C Sx q2 b S' 0) (hxf : Sx.fuel = S1.fuel) (hxs : Sx.fs.length = S1.fs.length) (hxw : Sx.wk = S1.wk) (hxt : Sx.ts.length = S1.ts.length) (hxc : Sx.cs.length = S1.cs.length) (g1 : Gr S0 S1) (g2 : Gr Sx S') (hm1 : S0.wk ≤ S1.wk) (hm2 : Sx.wk ≤ S'.wk)
    (h0 : S0.fuel = S.fuel) (hw : S.wk + sl1 + sx ≤ S0.wk + sl) (hw0 : S.wk ≤ S0.wk) (hfs : S.fs.length ≤ S0.fs.length) (hcs : S0.cs.length = S.cs.length)
    (live : ∀ f g b2 S2 d, EvD K (S0.fu f) false q1 b1 (S1.fu g) false → EvD K (Sx.fu g) false q2 b2 S2 d → EvD K (S.fu f) false q b2 S2 d)
    (dry : ∀ f b2 S2 fs0, EvD K (S0.fu f) false q1 b2 S2 true → Dried K fs0 S2 → S.fs.length ≤ fs0.length → fs0.length ≤ S'.fs.length → ∃ b3 S3, EvD K (S.fu f) false q b3 S3 true ∧ Dried K fs0 S3 ∧ S3.ts.length ≤ S2.ts.length + C * sx ∧ S3.cs.length = S2.cs.length) : SimF K C S q b S' sl := by
  obtain ⟨a1, a2, a3⟩ := h
  obtain ⟨e1, e2, e3⟩ := h'
  have k1 := g1.fuel
  have k2 := g2.fuel
  have k3 := g1.fs
  have k4 := g2.fs
  have k5 := g2.ts
  refine ⟨e1, fun f hf => ?_, fun f hf => ?_⟩
  · have := live f _ _ _ _ (a2 f (by omega)) (e2 _ (by omega))
    rw [show f + S'.fuel - S.fuel = f + S1.fuel - S0.fuel + S'.fuel - Sx.fuel by omega]
    exact this
  · by_cases h1 : f + S1.fuel < S0.fuel
    · obtain ⟨b2, S2, fs0, c1, c2, c3, c4, c5, c6⟩ := a3 f h1
      obtain ⟨b3, S3, d1, d2, d3, d4⟩ := dry f b2 S2 fs0 c1 c2 (by omega) (by omega)
      refine ⟨b3, S3, fs0, d1, d2, by omega, by omega, ?_, by rw [d4, c6, hcs]⟩
      have h1 : C * (S1.wk - S0.wk + sl1) + C * sx ≤ C * (S'.wk - S.wk + sl) := by rw [← Nat.mul_add]; exact mulC (by omega)
      omega
    · have l1 := a2 f (by omega)
      obtain ⟨b2, S2, fs0, c1, c2, c3, c4, c5, c6⟩ := e3 (f + S1.fuel - S0.fuel) (by omega)
      refine ⟨b2, S2, fs0, live f _ _ _ _ l1 c1, c2, by omega, c4, ?_, by rw [c6, hxc, g1.cs, hcs]⟩
      have h1 : C * (S'.wk - Sx.wk + 0) ≤ C * (S'.wk - S.wk + sl) := mulC (by omega)
      omega
end
theorem dr0 {K : SrE} {C : Nat} {S S' : SS} {at_ i j up sl : Nat} (hS : FV K S) (g : Gr S S') : ∀ f, f < 1 → Dr K C S (.take at_ i j up) S' sl f := fun f hf => by
  obtain rfl : f = 0 := by omega
  exact ⟨false, S.fu 0, S.fs, .takeDry (.inl rfl), ⟨hS.cs rfl, [], by simp, fun _ h => (by cases h)⟩, Nat.le_refl _, g.fs, Nat.le_trans g.ts (Nat.le_add_right _ _), rfl⟩
theorem simT {K : SrE} {C : Nat} {S S' : SS} {q : SQ} {b : Bool} {sl : Nat} (hF : FV K S') (hfu : S'.fuel = S.fuel) (hl : ∀ f, EvD K (S.fu f) false q b (S'.fu f) false) : SimF K C S q b S' sl := by
  refine ⟨hF, fun f _ => ?_, fun f hf => by omega⟩
  rw [show f + S'.fuel - S.fuel = f by omega]; exact hl f
theorem nolt {P : Nat → Prop} : ∀ f, f < 0 → P f := fun f h => by omega
theorem dry_row1 {K : SrE} {S S2 : SS} {f : Frm} {u at_ e : Nat} {es : List Nat} {b2 : Bool} (h : EvD K S false (.take f.kid at_ e u) b2 S2 true) : EvD K S false (.rowL f u at_ (e :: es)) b2 S2 true := by
  cases b2 with
  | true => exact .rowLYes h
  | false =>
    by_cases hl : f.left = 1
    · exact .rowLLast hl h
    · exact .rowLNo hl h (dry_rowL es)
theorem dry_alt1 {K : SrE} {S S2 : SS} {kid l i j up : Nat} {b2 : Bool} (h : EvD K S false (.take kid i j up) b2 S2 true) : EvD K S false (.alt kid (l + 1) i j up) b2 S2 true := by
  cases b2 with
  | true => exact .altYes h
  | false => exact .altNo h (dry_alt l _)
theorem dry_rnd1 {K : SrE} {fs0 : List Frm} {S S2 : SS} {f : Frm} {u at_ e : Nat} {es : List Nat} {x : Nd} {b2 : Bool} (hx : K.re[f.node]? = some x) (hb : ¬ brk x f at_ e) (hD : Dried K fs0 S2)
    (h : EvD K { S with cs := fgt (K.inn (f.node + 1) (K.bh f.node)) S.cs } false (.take (f.node + 1) at_ e u) b2 S2 true) : ∃ b3 S3, EvD K S false (.rndL f u at_ (e :: es)) b3 S3 true ∧ Dried K fs0 S3 ∧ S3.ts = S2.ts ∧ S3.cs.length = S2.cs.length := by
  cases b2 with
  | true => exact ⟨true, S2, .rndLYes hx hb h, hD, rfl, rfl⟩
  | false =>
    obtain ⟨cs, h1, h2⟩ := dry_rndL (u := u) (at_ := at_) hx es { S2 with cs := rst (K.inn (f.node + 1) (K.bh f.node)) (emW (K.inn (f.node + 1) (K.bh f.node)) S.cs) S2.cs }
    refine ⟨false, _, .rndLNo hx hb h h1, hD.cs rfl, rfl, h2.trans ?_⟩
    exact rst_len _ _ _
theorem dry_grp {K : SrE} {fs0 : List Frm} {S S2 S3 : SS} {at_ i j up u : Nat} {x : Nd} {b2 : Bool} (hx : K.re[at_]? = some x) (hf : 0 < S.fuel) (ho : x.op = 7) (hp : ({ S.tick with cs := fgt (K.inn (at_ + 1) (K.bh at_)) S.cs } : SS).push ⟨up, at_, 0, 0, i, j⟩ = (u, S2)) (h : EvD K S2 false (.take (at_ + 1) i j u) b2 S3 true) (hD : Dried K fs0 S3) : ∃ b3 S4, EvD K S false (.take at_ i j up) b3 S4 true ∧ Dried K fs0 S4 ∧ S4.ts = S3.ts ∧ S4.cs.length = S3.cs.length := by
  cases b2 with
  | true => exact ⟨true, S3, .takeGrpY hx hf ho hp h, hD, rfl, rfl⟩
  | false => exact ⟨false, _, .takeGrpN hx hf ho hp h, hD.cs rfl, rfl, rst_len _ _ _⟩
theorem dry_body {K : SrE} {fs0 : List Frm} {S S2 : SS} {f : Frm} {at_ : Nat} {x : Nd} {b2 : Bool} (hx : K.re[f.node]? = some x) (h4 : ¬ x.op = 4) (h6 : ¬ x.op = 6) (h : EvD K { S with cs := S.cs.set x.n.toNat ⟨f.fr, f.to⟩ } false (.next f.up at_) b2 S2 true) (hD : Dried K fs0 S2) : ∃ b3 S3, EvD K S false (.body f at_) b3 S3 true ∧ Dried K fs0 S3 ∧ S3.ts = S2.ts ∧ S3.cs.length = S2.cs.length := by
  cases b2 with
  | true => exact ⟨true, S2, .bodyGrpY hx h4 h6 h, hD, rfl, rfl⟩
  | false => exact ⟨false, _, .bodyGrpN hx h4 h6 h, hD.cs rfl, rfl, List.length_set ..⟩
theorem Ev.sim {K : SrE} {M : Nat} {S S' : SS} {q : SQ} {b : Bool} (h : Ev K S q b S') : S'.fs.length ≤ M → FV K S → LgM K S q → SimF K (K.cR * (M + 1)) S q b S' (slQ q) := by
  generalize hC : K.cR * (M + 1) = C
  induction h with
  | @takeNo S at_ i j up x hx hf ho hg =>
    intro hM hS hq
    refine ⟨hS.cs rfl, fun f hf' => ?_, fun f hf' => ?_⟩
    · have h1 : 0 < f := by show 0 < f; have : S.tick.fuel = S.fuel - 1 := rfl; omega
      have := EvD.takeNo (S := S.fu f) (i := i) (j := j) (up := up) hx h1 ho hg
      have e : (S.fu f).tick = S.tick.fu (f + S.tick.fuel - S.fuel) := by
        show ({ S with fuel := f - 1, wk := S.wk + 1 } : SS) = { S with fuel := f + (S.fuel - 1) - S.fuel, wk := S.wk + 1 }
        rw [show f + (S.fuel - 1) - S.fuel = f - 1 by omega]
      rw [← e]; exact this
    · have h0 : f = 0 := by have : S.tick.fuel = S.fuel - 1 := rfl; omega
      subst h0
      exact ⟨false, S.fu 0, S.fs, .takeDry (.inl rfl), ⟨hS.cs rfl, [], by simp, fun _ h => by cases h⟩, Nat.le_refl _, Nat.le_refl _, Nat.le_add_right _ _, rfl⟩
  | @takeYes S S' at_ i j up x b hx hf ho hg h ih =>
    intro hM hS hq
    have s := ih hM (hS.cs rfl) hq
    refine SimF.lift (t := 1) (sx := 0) s s.1 rfl (Nat.le_refl _) (Nat.le_refl _) (Nat.le_refl _) h.grow.1 h.mono.fuel (by show S.fuel - 1 + 1 = S.fuel; omega) (by show S.wk + 0 + 0 ≤ S.wk + 1 + 0; omega) (Nat.le_refl _) rfl (fun f g h => .takeYes (S := S.fu (f + 1)) hx (Nat.succ_pos _) ho hg h) (fun f b2 S2 fs0 h hD _ _ => ⟨b2, S2, .takeYes (S := S.fu (f + 1)) hx (Nat.succ_pos _) ho hg h, hD, by omega, rfl⟩) (dr0 hS ?_)
    exact tick_gr.trans h.mono
  | @takeAlt S S' at_ i j up x b hx hf ho h ih =>
    intro hM hS hq
    have s := ih hM (hS.cs rfl) hq
    refine SimF.lift (t := 1) (sx := 0) s s.1 rfl (Nat.le_refl _) (Nat.le_refl _) (Nat.le_refl _) h.grow.1 h.mono.fuel (by show S.fuel - 1 + 1 = S.fuel; omega) (by show S.wk + 0 + 0 ≤ S.wk + 1 + 0; omega) (Nat.le_refl _) rfl (fun f g h => .takeAlt (S := S.fu (f + 1)) hx (Nat.succ_pos _) ho h) (fun f b2 S2 fs0 h hD _ _ => ⟨b2, S2, .takeAlt (S := S.fu (f + 1)) hx (Nat.succ_pos _) ho h, hD, by omega, rfl⟩) (dr0 hS ?_)
    exact tick_gr.trans h.mono
  | @takeCat S S2 S' at_ i j up u x b hx hf ho hp h ih =>
    intro hM hS hq
    obtain ⟨f1, f2, f3, f4⟩ := push_fv hp (hS.cs rfl) ⟨x, hx, .inl ho⟩ hq
    have gp := push_gr hp
    have s := ih hM f1 f2
    refine SimF.lift (t := 1) (sx := 0) s s.1 rfl (Nat.le_refl _) (Nat.le_refl _) (Nat.le_refl _) h.grow.1 h.mono.fuel (by rw [f4]; show S.fuel - 1 + 1 = S.fuel; omega) (by rw [f3]; show S.wk + 0 + 0 ≤ S.wk + 1 + 0; omega) gp.fs gp.cs (fun f g h => .takeCat (S := S.fu (f + 1)) hx (Nat.succ_pos _) ho (push_fu hp) h) (fun f b2 S2 fs0 h hD _ _ => ⟨b2, S2, .takeCat (S := S.fu (f + 1)) hx (Nat.succ_pos _) ho (push_fu hp) h, hD, by omega, rfl⟩) (dr0 hS ?_)
    exact tick_gr.trans (gp.trans h.mono)
  | @takeRep S S2 S' at_ i j up u x b hx hf ho hp h ih =>
    intro hM hS hq
    obtain ⟨f1, f2, f3, f4⟩ := push_fv hp (hS.cs rfl) ⟨x, hx, .inr (.inl ho)⟩ hq
    have gp := push_gr hp
    have s := ih hM f1 f2
    refine SimF.lift (t := 1) (sx := 0) s s.1 rfl (Nat.le_refl _) (Nat.le_refl _) (Nat.le_refl _) h.grow.1 h.mono.fuel (by rw [f4]; show S.fuel - 1 + 1 = S.fuel; omega) (by rw [f3]; show S.wk + 0 + 0 ≤ S.wk + 1 + 0; omega) gp.fs gp.cs (fun f g h => .takeRep (S := S.fu (f + 1)) hx (Nat.succ_pos _) ho (push_fu hp) h) (fun f b2 S2 fs0 h hD _ _ => ⟨b2, S2, .takeRep (S := S.fu (f + 1)) hx (Nat.succ_pos _) ho (push_fu hp) h, hD, by omega, rfl⟩) (dr0 hS ?_)
    exact tick_gr.trans (gp.trans h.mono)
  | altNil => intro hM hS hq; exact simT hS rfl fun f => .altNil
  | @altYes S S' kid l i j up h ih =>
    intro hM hS hq
    have s := ih hM hS hq
    exact SimF.lift (t := 0) (sx := 0) s s.1 rfl (Nat.le_refl _) (Nat.le_refl _) (Nat.le_refl _) h.grow.1 h.mono.fuel rfl (by show S.wk + 0 + 0 ≤ S.wk + 0; omega) (Nat.le_refl _) rfl (fun f g h => .altYes h) (fun f b2 S2 fs0 h hD _ _ => ⟨b2, S2, dry_alt1 h, hD, by omega, rfl⟩) nolt
  | @altNo S S1 S' kid l i j up b h h' ih ih' =>
    intro hM hS hq
    have g2 := h'.mono
    have s := ih (Nat.le_trans g2.fs hM) hS hq
    have s2 := ih' hM s.1 (Nat.le_trans hq h.mono.fs)
    exact SimF.seq (sx := 0) s s2 rfl rfl rfl rfl rfl h.mono g2 h.grow.1 h'.grow.1 rfl (by show S.wk + 0 + 0 ≤ S.wk + 0; omega) (Nat.le_refl _) (Nat.le_refl _) rfl (fun f g b2 S2 d h h' => .altNo h h') (fun f b2 S2 fs0 h hD _ _ => ⟨b2, S2, dry_alt1 h, hD, by omega, rfl⟩)
  | nextZero => intro hM hS hq; exact simT hS rfl fun f => .nextZero
  | @nextMemo S k at_ h => intro hM hS hq; exact simT (hS.cs rfl) rfl fun f => .nextMemo (S := S.fu f) h
  | @nextGo S S2 k at_ f b hn hf h ih =>
    intro hM hS hq
    have hk := (List.getElem?_eq_some_iff.1 hf).1
    have hup := hS.ch k f hf
    have e1 : (S2.fail b ⟨k + 1, at_, (K.code S).1⟩).fs = S2.fs := by unfold SS.fail; split <;> rfl
    have e2 : (S2.fail b ⟨k + 1, at_, (K.code S).1⟩).ts = S2.ts := by unfold SS.fail; split <;> rfl
    obtain ⟨_, e3, e4⟩ := S2.fail_sz b ⟨k + 1, at_, (K.code S).1⟩
    have s := ih (by rw [← e1]; exact hM) (hS.cs rfl) ⟨by show f.up ≤ S.fs.length; omega, hS.vo f (List.mem_of_getElem? hf)⟩
    refine SimF.lift (t := 0) (sx := 0) s (s.1.cs e1) e4 (by rw [e1]; exact Nat.le_refl _) (by rw [e2]; exact Nat.le_refl _) (by rw [e3]; exact Nat.le_refl _) h.grow.1 h.mono.fuel rfl (by show S.wk + 1 + 0 ≤ S.wk + 1 + 0; omega) (Nat.le_refl _) rfl (fun f' g h => ?_) (fun f' b2 S3 fs0 h hD _ _ => ?_) nolt
    · have := EvD.nextGo (S := S.fu f') hn hf h
      rw [if_neg (by simp)] at this
      cases b <;> exact this
    · have := EvD.nextGo (S := S.fu f') hn hf h
      rw [if_pos rfl] at this
      exact ⟨b2, S3, this, hD, by omega, rfl⟩
  | @bodyCat S S' f at_ x b hx ho h ih =>
    intro hM hS hq
    have s := ih hM hS hq
    exact SimF.lift (t := 0) (sx := 0) s s.1 rfl (Nat.le_refl _) (Nat.le_refl _) (Nat.le_refl _) h.grow.1 h.mono.fuel rfl (by show S.wk + 1 + 0 ≤ S.wk + 1; omega) (Nat.le_refl _) rfl (fun f g h => .bodyCat hx ho h) (fun f b2 S2 fs0 h hD _ _ => ⟨b2, S2, .bodyCat hx ho h, hD, by omega, rfl⟩) nolt
  | @bodyRep S S' f at_ x b hx ho h ih =>
    intro hM hS hq
    have s := ih hM hS hq
    exact SimF.lift (t := 0) (sx := 0) s s.1 rfl (Nat.le_refl _) (Nat.le_refl _) (Nat.le_refl _) h.grow.1 h.mono.fuel rfl (by show S.wk + 1 + 0 ≤ S.wk + 1; omega) (Nat.le_refl _) rfl (fun f g h => .bodyRep hx ho h) (fun f b2 S2 fs0 h hD _ _ => ⟨b2, S2, .bodyRep hx ho h, hD, by omega, rfl⟩) nolt
  | rowZN hl he => intro hM hS hq; exact simT hS rfl fun f => .rowZN hl he
  | @rowZ S S' f at_ b hl he h ih =>
    intro hM hS hq
    have s := ih hM hS hq.1
    exact SimF.lift (t := 0) (sx := 0) s s.1 rfl (Nat.le_refl _) (Nat.le_refl _) (Nat.le_refl _) h.grow.1 h.mono.fuel rfl (by show S.wk + 0 + 0 ≤ S.wk + 1; omega) (Nat.le_refl _) rfl (fun f g h => .rowZ hl he h) (fun f b2 S2 fs0 h hD _ _ => ⟨b2, S2, .rowZ hl he h, hD, by omega, rfl⟩) nolt
  | @rowS S S1 S' f at_ u l b hl hp h ih =>
    intro hM hS hq
    obtain ⟨f1, f2, f3, f4⟩ := push_fv hp hS hq.2 hq.1
    have gp := push_gr hp
    have s := ih hM f1 ⟨Nat.le_trans hq.1 gp.fs, f2⟩
    exact SimF.lift (t := 0) (sx := 0) s s.1 rfl (Nat.le_refl _) (Nat.le_refl _) (Nat.le_refl _) h.grow.1 h.mono.fuel f4 (by rw [f3]; show S.wk + 0 + 0 ≤ S.wk + 1; omega) gp.fs gp.cs (fun f g h => .rowS (S := S.fu f) hl (push_fu hp) h) (fun f b2 S2 fs0 h hD _ _ => ⟨b2, S2, .rowS (S := S.fu f) hl (push_fu hp) h, hD, by omega, rfl⟩) nolt
  | rowLNil => intro hM hS hq; exact simT hS rfl fun f => .rowLNil
  | @rowLYes S S' f u at_ e es h ih =>
    intro hM hS hq
    have s := ih hM hS hq.2
    exact SimF.lift (t := 0) (sx := 0) s s.1 rfl (Nat.le_refl _) (Nat.le_refl _) (Nat.le_refl _) h.grow.1 h.mono.fuel rfl (by show S.wk + 0 + 0 ≤ S.wk + 0; omega) (Nat.le_refl _) rfl (fun f g h => .rowLYes h) (fun f b2 S2 fs0 h hD _ _ => ⟨b2, S2, dry_row1 h, hD, by omega, rfl⟩) nolt
  | @rowLLast S S' f u at_ e es hl h ih =>
    intro hM hS hq
    have s := ih hM hS hq.2
    exact SimF.lift (t := 0) (sx := 0) s s.1 rfl (Nat.le_refl _) (Nat.le_refl _) (Nat.le_refl _) h.grow.1 h.mono.fuel rfl (by show S.wk + 0 + 0 ≤ S.wk + 0; omega) (Nat.le_refl _) rfl (fun f g h => .rowLLast hl h) (fun f b2 S2 fs0 h hD _ _ => ⟨b2, S2, dry_row1 h, hD, by omega, rfl⟩) nolt
  | @rowLNo S S1 S' f u at_ e es b hl h h' ih ih' =>
    intro hM hS hq
    have g2 := h'.mono
    have s := ih (Nat.le_trans g2.fs hM) hS hq.2
    have s2 := ih' hM s.1 ⟨Nat.le_trans hq.1 h.mono.fs, Nat.le_trans hq.2 h.mono.fs⟩
    exact SimF.seq (sx := 0) s s2 rfl rfl rfl rfl rfl h.mono g2 h.grow.1 h'.grow.1 rfl (by show S.wk + 0 + 0 ≤ S.wk + 0; omega) (Nat.le_refl _) (Nat.le_refl _) rfl (fun f g b2 S2 d h h' => .rowLNo hl h h') (fun f b2 S2 fs0 h hD _ _ => ⟨b2, S2, dry_row1 h, hD, by omega, rfl⟩)
  | @takeGrpY S S2 S' at_ i j up u x hx hf ho hp h ih =>
    intro hM hS hq
    obtain ⟨f1, f2, f3, f4⟩ := push_fv hp (hS.cs rfl) ⟨x, hx, .inr (.inr ho)⟩ hq
    have gp := push_gr hp
    have hcs : S2.cs.length = S.cs.length := gp.cs.trans (fgt_len _ _)
    have s := ih hM f1 f2
    refine SimF.lift (t := 1) (sx := 0) s s.1 rfl (Nat.le_refl _) (Nat.le_refl _) (Nat.le_refl _) h.grow.1 h.mono.fuel (by rw [f4]; show S.fuel - 1 + 1 = S.fuel; omega) (by rw [f3]; show S.wk + 0 + 0 ≤ S.wk + 1 + 0; omega) gp.fs hcs (fun f g h => .takeGrpY (S := S.fu (f + 1)) hx (Nat.succ_pos _) ho (push_fu hp) h) (fun f b2 S3 fs0 h hD _ _ => ?_) (dr0 hS ?_)
    · obtain ⟨b3, S4, c1, c2, c3, c4⟩ := dry_grp (S := S.fu (f + 1)) hx (Nat.succ_pos _) ho (push_fu hp) h hD
      exact ⟨b3, S4, c1, c2, by rw [c3]; omega, c4⟩
    · exact tick_gr.trans ((cs_gr (fgt_len _ _)).trans (gp.trans h.mono))
  | @takeGrpN S S2 S' at_ i j up u x hx hf ho hp h ih =>
    intro hM hS hq
    obtain ⟨f1, f2, f3, f4⟩ := push_fv hp (hS.cs rfl) ⟨x, hx, .inr (.inr ho)⟩ hq
    have gp := push_gr hp
    have hcs : S2.cs.length = S.cs.length := gp.cs.trans (fgt_len _ _)
    have s := ih hM f1 f2
    refine SimF.lift (t := 1) (sx := 0) s (s.1.cs rfl) rfl (Nat.le_refl _) (Nat.le_refl _) (Nat.le_refl _) h.grow.1 h.mono.fuel (by rw [f4]; show S.fuel - 1 + 1 = S.fuel; omega) (by rw [f3]; show S.wk + 0 + 0 ≤ S.wk + 1 + 0; omega) gp.fs hcs (fun f g h => .takeGrpN (S := S.fu (f + 1)) hx (Nat.succ_pos _) ho (push_fu hp) h) (fun f b2 S3 fs0 h hD _ _ => ?_) (dr0 hS ?_)
    · obtain ⟨b3, S4, c1, c2, c3, c4⟩ := dry_grp (S := S.fu (f + 1)) hx (Nat.succ_pos _) ho (push_fu hp) h hD
      exact ⟨b3, S4, c1, c2, by rw [c3]; omega, c4⟩
    · exact tick_gr.trans ((cs_gr (fgt_len _ _)).trans (gp.trans (h.mono.trans (cs_gr (rst_len _ _ _)))))
  | @bodyGrpY S S' f at_ x hx h4 h6 h ih =>
    intro hM hS hq
    have s := ih hM (hS.cs rfl) hq.1
    refine SimF.lift (t := 0) (sx := 0) s s.1 rfl (Nat.le_refl _) (Nat.le_refl _) (Nat.le_refl _) h.grow.1 h.mono.fuel rfl (by show S.wk + 0 + 0 ≤ S.wk + 1; omega) (Nat.le_refl _) (List.length_set ..) (fun f' g h => .bodyGrpY (S := S.fu f') hx h4 h6 h) (fun f' b2 S3 fs0 h hD _ _ => ?_) nolt
    obtain ⟨b3, S4, c1, c2, c3, c4⟩ := dry_body (S := S.fu f') hx h4 h6 h hD
    exact ⟨b3, S4, c1, c2, by rw [c3]; omega, c4⟩
  | @bodyGrpN S S' f at_ x hx h4 h6 h ih =>
    intro hM hS hq
    have s := ih hM (hS.cs rfl) hq.1
    refine SimF.lift (t := 0) (sx := 0) s (s.1.cs rfl) rfl (Nat.le_refl _) (Nat.le_refl _) (Nat.le_refl _) h.grow.1 h.mono.fuel rfl (by show S.wk + 0 + 0 ≤ S.wk + 1; omega) (Nat.le_refl _) (List.length_set ..) (fun f' g h => .bodyGrpN (S := S.fu f') hx h4 h6 h) (fun f' b2 S3 fs0 h hD _ _ => ?_) nolt
    obtain ⟨b3, S4, c1, c2, c3, c4⟩ := dry_body (S := S.fu f') hx h4 h6 h hD
    exact ⟨b3, S4, c1, c2, by rw [c3]; omega, c4⟩
  | @rndYes S S1 S' f at_ u x hx hm hp h ih =>
    intro hM hS hq
    obtain ⟨f1, f2, f3, f4⟩ := push_fv hp hS hq.2 hq.1
    have gp := push_gr hp
    have hg := h.mono
    have s := ih hM f1 ⟨Nat.le_trans hq.1 gp.fs, f2⟩
    refine SimF.lift (t := 0) (sx := 1) s s.1 rfl (Nat.le_refl _) (Nat.le_refl _) (Nat.le_refl _) h.grow.1 hg.fuel f4 (by rw [f3]; exact Nat.le_refl _) gp.fs gp.cs (fun f' g h => .rndYes (S := S.fu f') hx hm (push_fu hp) h) (fun f' b2 S3 fs0 h hD hl hl2 => ?_) nolt
    obtain ⟨b3, S4, c1, c2, c3, c4⟩ := dry_rnd (S := S.fu f') hx hm (push_fu hp) h hD (Nat.le_trans hq.1 hl)
    refine ⟨b3, S4, c1, c2, Nat.le_trans c3 (Nat.add_le_add_left ?_ _), c4⟩
    rw [Nat.mul_one, ← hC]
    exact Nat.mul_le_mul_left _ (by have := hq.1; omega)
  | @rndEnd S S1 S2 S' f at_ u x b hx hm hp h he h' ih ih' =>
    intro hM hS hq
    obtain ⟨f1, f2, f3, f4⟩ := push_fv hp hS hq.2 hq.1
    have gp := push_gr hp
    have g1 := h.mono
    have g2 := h'.mono
    have s := ih (Nat.le_trans g2.fs hM) f1 ⟨Nat.le_trans hq.1 gp.fs, f2⟩
    have s2 := ih' hM s.1 (Nat.le_trans hq.1 (Nat.le_trans gp.fs g1.fs))
    refine SimF.seq (sx := 1) s s2 rfl rfl rfl rfl rfl g1 g2 h.grow.1 h'.grow.1 f4 (by rw [f3]; exact Nat.le_refl _) (by rw [f3]; exact Nat.le_refl _) gp.fs gp.cs (fun f' g b2 S3 d h h' => .rndEnd (S := S.fu f') hx hm (push_fu hp) h he h') (fun f' b2 S3 fs0 h hD hl hl2 => ?_)
    obtain ⟨b3, S4, c1, c2, c3, c4⟩ := dry_rnd (S := S.fu f') hx hm (push_fu hp) h hD (Nat.le_trans hq.1 hl)
    refine ⟨b3, S4, c1, c2, Nat.le_trans c3 (Nat.add_le_add_left ?_ _), c4⟩
    rw [Nat.mul_one, ← hC]
    exact Nat.mul_le_mul_left _ (by have := hq.1; omega)
  | @rndNo S S1 S' f at_ u x hx hm hp h he ih =>
    intro hM hS hq
    obtain ⟨f1, f2, f3, f4⟩ := push_fv hp hS hq.2 hq.1
    have gp := push_gr hp
    have hg := h.mono
    have s := ih hM f1 ⟨Nat.le_trans hq.1 gp.fs, f2⟩
    refine SimF.lift (t := 0) (sx := 1) s s.1 rfl (Nat.le_refl _) (Nat.le_refl _) (Nat.le_refl _) h.grow.1 hg.fuel f4 (by rw [f3]; exact Nat.le_refl _) gp.fs gp.cs (fun f' g h => .rndNo (S := S.fu f') hx hm (push_fu hp) h he) (fun f' b2 S3 fs0 h hD hl hl2 => ?_) nolt
    obtain ⟨b3, S4, c1, c2, c3, c4⟩ := dry_rnd (S := S.fu f') hx hm (push_fu hp) h hD (Nat.le_trans hq.1 hl)
    refine ⟨b3, S4, c1, c2, Nat.le_trans c3 (Nat.add_le_add_left ?_ _), c4⟩
    rw [Nat.mul_one, ← hC]
    exact Nat.mul_le_mul_left _ (by have := hq.1; omega)
  | @rnd0End S S' f at_ x b hx hm he h ih =>
    intro hM hS hq
    have s := ih hM hS hq.1
    exact SimF.lift (t := 0) (sx := 0) s s.1 rfl (Nat.le_refl _) (Nat.le_refl _) (Nat.le_refl _) h.grow.1 h.mono.fuel rfl (by show S.wk + 0 + 0 ≤ S.wk + 1; omega) (Nat.le_refl _) rfl (fun f' g h => .rnd0End hx hm he h) (fun f' b2 S2 fs0 h hD _ _ => ⟨b2, S2, .rnd0End hx hm he h, hD, by omega, rfl⟩) nolt
  | rnd0No hx hm he => intro hM hS hq; exact simT hS rfl fun f => .rnd0No hx hm he
  | rndLNil => intro hM hS hq; exact simT hS rfl fun f => .rndLNil
  | rndLBrk hx hb => intro hM hS hq; exact simT hS rfl fun f => .rndLBrk hx hb
  | @rndLYes S S' f u at_ e es x hx hb h ih =>
    intro hM hS hq
    have s := ih hM (hS.cs rfl) hq.2
    refine SimF.lift (t := 0) (sx := 0) s s.1 rfl (Nat.le_refl _) (Nat.le_refl _) (Nat.le_refl _) h.grow.1 h.mono.fuel rfl (by show S.wk + 0 + 0 ≤ S.wk + 0; omega) (Nat.le_refl _) (fgt_len _ _) (fun f' g h => .rndLYes (S := S.fu f') hx hb h) (fun f' b2 S3 fs0 h hD _ _ => ?_) nolt
    obtain ⟨b3, S4, c1, c2, c3, c4⟩ := dry_rnd1 (S := S.fu f') (es := es) hx hb hD h
    exact ⟨b3, S4, c1, c2, by rw [c3]; omega, c4⟩
  | @rndLNo S S1 S' f u at_ e es x b hx hb h h' ih ih' =>
    intro hM hS hq
    have g1 := h.mono
    have g2 := h'.mono
    have s := ih (Nat.le_trans g2.fs hM) (hS.cs rfl) hq.2
    have s2 := ih' hM (s.1.cs rfl) ⟨Nat.le_trans hq.1 g1.fs, Nat.le_trans hq.2 g1.fs⟩
    refine SimF.seq (sx := 0) s s2 rfl rfl rfl rfl (rst_len _ _ _) g1 g2 h.grow.1 h'.grow.1 rfl (by show S.wk + 0 + 0 ≤ S.wk + 0; omega) (Nat.le_refl _) (Nat.le_refl _) (fgt_len _ _) (fun f' g b2 S3 d h h' => .rndLNo (S := S.fu f') hx hb h h') (fun f' b2 S3 fs0 h hD _ _ => ?_)
    obtain ⟨b3, S4, c1, c2, c3, c4⟩ := dry_rnd1 (S := S.fu f') (es := es) hx hb hD h
    exact ⟨b3, S4, c1, c2, by rw [c3]; omega, c4⟩
end Go.HL.Kl.Mc
namespace Go.HL.Kl.Mc
open Go Go.HL Go.HL.Kl AskE
/-! the runs, turned round -/
section
variable {K : SrE} {S S' : SS} {b d d2 : Bool}
theorem EvD.iNext0 {at_ : Nat} (h : EvD K S d (.next 0 at_) b S' d2) : b = true ∧ S' = S ∧ d2 = d := by cases h; exact ⟨rfl, rfl, rfl⟩
theorem EvD.iNext {k at_ : Nat} (h : EvD K S d (.next (k + 1) at_) b S' d2) : ((⟨k + 1, at_, (K.code S).1⟩ : Pt) ∈ S.F ∧ b = false ∧ S' = (K.code S).2 ∧ d2 = d) ∨ ((⟨k + 1, at_, (K.code S).1⟩ : Pt) ∉ S.F ∧ ∃ f S2, S.fs[k]? = some f ∧ EvD K { (K.code S).2 with wk := S.wk + 1 } d (.body f at_) b S2 d2 ∧ S' = if d2 = true then S2 else S2.fail b ⟨k + 1, at_, (K.code S).1⟩) := by
  cases h with
  | nextMemo h => exact .inl ⟨h, rfl, rfl, rfl⟩
  | nextGo hn hf h => exact .inr ⟨hn, _, _, hf, h, rfl⟩
theorem EvD.iBody4 {f : Frm} {at_ : Nat} {x : Nd} (hx : K.re[f.node]? = some x) (ho : x.op = 4) (h : EvD K S d (.body f at_) b S' d2) : EvD K S d (.row f at_) b S' d2 := by
  cases h with
  | bodyCat _ _ h => exact h
  | bodyRep hx' ho' _ => rw [hx] at hx'; cases hx'; omega
  | bodyGrpY hx' h4 _ _ => rw [hx] at hx'; cases hx'; exact absurd ho h4
  | bodyGrpN hx' h4 _ _ => rw [hx] at hx'; cases hx'; exact absurd ho h4
theorem EvD.iBody6 {f : Frm} {at_ : Nat} {x : Nd} (hx : K.re[f.node]? = some x) (ho : x.op = 6) (h : EvD K S d (.body f at_) b S' d2) : EvD K S d (.rnd f at_) b S' d2 := by
  cases h with
  | bodyRep _ _ h => exact h
  | bodyCat hx' ho' _ => rw [hx] at hx'; cases hx'; omega
  | bodyGrpY hx' _ h6 _ => rw [hx] at hx'; cases hx'; exact absurd ho h6
  | bodyGrpN hx' _ h6 _ => rw [hx] at hx'; cases hx'; exact absurd ho h6
theorem EvD.iBody7 {f : Frm} {at_ : Nat} {x : Nd} (hx : K.re[f.node]? = some x) (ho : x.op = 7) (h : EvD K S d (.body f at_) b S' d2) : ∃ S2, EvD K { S with cs := S.cs.set x.n.toNat ⟨f.fr, f.to⟩ } d (.next f.up at_) b S2 d2 ∧ S' = if b = true then S2 else { S2 with cs := S2.cs.set x.n.toNat (S.cs.getD x.n.toNat noS) } := by
  cases h with
  | bodyCat hx' ho' _ => rw [hx] at hx'; cases hx'; omega
  | bodyRep hx' ho' _ => rw [hx] at hx'; cases hx'; omega
  | bodyGrpY hx' _ _ h => rw [hx] at hx'; cases hx'; exact ⟨_, h, rfl⟩
  | bodyGrpN hx' _ _ h => rw [hx] at hx'; cases hx'; exact ⟨_, h, rfl⟩
theorem EvD.iRow0 {f : Frm} {at_ : Nat} (hl : f.left = 0) (h : EvD K S d (.row f at_) b S' d2) : (at_ ≠ f.to ∧ b = false ∧ S' = S ∧ d2 = d) ∨ (at_ = f.to ∧ EvD K S d (.next f.up at_) b S' d2) := by
  cases h with
  | rowZN _ he => exact .inl ⟨he, rfl, rfl, rfl⟩
  | rowZ _ he h => exact .inr ⟨he, h⟩
  | rowS hl' _ _ => omega
theorem EvD.iRowS {f : Frm} {at_ : Nat} (hl : ¬ f.left = 0) (h : EvD K S d (.row f at_) b S' d2) : ∃ u S1, S.push { f with kid := K.bh f.kid, left := f.left - 1, fr := 0 } = (u, S1) ∧ EvD K S1 d (.rowL f u at_ (ends at_ f.to)) b S' d2 := by
  cases h with
  | rowZN hl' _ => exact absurd hl' hl
  | rowZ hl' _ _ => exact absurd hl' hl
  | @rowS _ _ _ _ _ _ _ u l _ hl' hp h =>
    have e : f.left - 1 = l := by omega
    rw [e]; exact ⟨_, _, hp, h⟩
theorem EvD.iRowL0 {f : Frm} {u at_ : Nat} (h : EvD K S d (.rowL f u at_ []) b S' d2) : b = false ∧ S' = S ∧ d2 = d := by cases h; exact ⟨rfl, rfl, rfl⟩
theorem EvD.iRowL {f : Frm} {u at_ e : Nat} {es : List Nat} (h : EvD K S d (.rowL f u at_ (e :: es)) b S' d2) : ∃ b1 S1 d1, EvD K S d (.take f.kid at_ e u) b1 S1 d1 ∧ ((b1 = true ∧ b = true ∧ S' = S1 ∧ d2 = d1) ∨ (b1 = false ∧ f.left = 1 ∧ b = false ∧ S' = S1 ∧ d2 = d1) ∨ (b1 = false ∧ f.left ≠ 1 ∧ EvD K S1 d1 (.rowL f u at_ es) b S' d2)) := by
  cases h with
  | rowLYes h => exact ⟨_, _, _, h, .inl ⟨rfl, rfl, rfl, rfl⟩⟩
  | rowLLast hl h => exact ⟨_, _, _, h, .inr (.inl ⟨rfl, hl, rfl, rfl, rfl⟩)⟩
  | rowLNo hl h h' => exact ⟨_, _, _, h, .inr (.inr ⟨rfl, hl, h'⟩)⟩
theorem EvD.iRnd {f : Frm} {at_ : Nat} {x : Nd} (hx : K.re[f.node]? = some x) (hm : x.mx < 0 ∨ (f.kid : Int) < x.mx) (h : EvD K S d (.rnd f at_) b S' d2) :
    ∃ u S1 b1 S2 d1, S.push { f with kid := satK x f.kid } = (u, S1) ∧ EvD K S1 d (.rndL f u at_ (ends at_ f.to)) b1 S2 d1 ∧ ((b1 = true ∧ b = true ∧ S' = S2 ∧ d2 = d1) ∨ (b1 = false ∧ (at_ = f.to ∧ x.mn ≤ (f.kid : Int)) ∧ EvD K S2 d1 (.next f.up at_) b S' d2) ∨ (b1 = false ∧ ¬ (at_ = f.to ∧ x.mn ≤ (f.kid : Int)) ∧ b = false ∧ S' = S2 ∧ d2 = d1)) := by
  cases h with
  | rndYes hx' hm' hp h => rw [hx] at hx'; cases hx'; exact ⟨_, _, _, _, _, hp, h, .inl ⟨rfl, rfl, rfl, rfl⟩⟩
  | rndEnd hx' hm' hp h he h' => rw [hx] at hx'; cases hx'; exact ⟨_, _, _, _, _, hp, h, .inr (.inl ⟨rfl, he, h'⟩)⟩
  | rndNo hx' hm' hp h he => rw [hx] at hx'; cases hx'; exact ⟨_, _, _, _, _, hp, h, .inr (.inr ⟨rfl, he, rfl, rfl, rfl⟩)⟩
  | rnd0End hx' hm' => rw [hx] at hx'; cases hx'; exact absurd hm hm'
  | rnd0No hx' hm' => rw [hx] at hx'; cases hx'; exact absurd hm hm'
theorem EvD.iRnd0 {f : Frm} {at_ : Nat} {x : Nd} (hx : K.re[f.node]? = some x) (hm : ¬ (x.mx < 0 ∨ (f.kid : Int) < x.mx)) (h : EvD K S d (.rnd f at_) b S' d2) :
    ((at_ = f.to ∧ x.mn ≤ (f.kid : Int)) ∧ EvD K S d (.next f.up at_) b S' d2) ∨ (¬ (at_ = f.to ∧ x.mn ≤ (f.kid : Int)) ∧ b = false ∧ S' = S ∧ d2 = d) := by
  cases h with
  | rndYes hx' hm' => rw [hx] at hx'; cases hx'; exact absurd hm' hm
  | rndEnd hx' hm' => rw [hx] at hx'; cases hx'; exact absurd hm' hm
  | rndNo hx' hm' => rw [hx] at hx'; cases hx'; exact absurd hm' hm
  | rnd0End hx' _ he h => rw [hx] at hx'; cases hx'; exact .inl ⟨he, h⟩
  | rnd0No hx' _ he => rw [hx] at hx'; cases hx'; exact .inr ⟨he, rfl, rfl, rfl⟩
theorem EvD.iRndL0 {f : Frm} {u at_ : Nat} (h : EvD K S d (.rndL f u at_ []) b S' d2) : b = false ∧ S' = S ∧ d2 = d := by cases h; exact ⟨rfl, rfl, rfl⟩
theorem EvD.iRndL {f : Frm} {u at_ e : Nat} {es : List Nat} {x : Nd} (hx : K.re[f.node]? = some x) (h : EvD K S d (.rndL f u at_ (e :: es)) b S' d2) : (brk x f at_ e ∧ b = false ∧ S' = S ∧ d2 = d) ∨ (¬ brk x f at_ e ∧ ∃ b1 S1 d1, EvD K { S with cs := fgt (K.inn (f.node + 1) (K.bh f.node)) S.cs } d (.take (f.node + 1) at_ e u) b1 S1 d1 ∧
    ((b1 = true ∧ b = true ∧ S' = S1 ∧ d2 = d1) ∨ (b1 = false ∧ EvD K { S1 with cs := rst (K.inn (f.node + 1) (K.bh f.node)) (emW (K.inn (f.node + 1) (K.bh f.node)) S.cs) S1.cs } d1 (.rndL f u at_ es) b S' d2))) := by
  cases h with
  | rndLBrk hx' hb => rw [hx] at hx'; cases hx'; exact .inl ⟨hb, rfl, rfl, rfl⟩
  | rndLYes hx' hb h => rw [hx] at hx'; cases hx'; exact .inr ⟨hb, _, _, _, h, .inl ⟨rfl, rfl, rfl, rfl⟩⟩
  | rndLNo hx' hb h h' => rw [hx] at hx'; cases hx'; exact .inr ⟨hb, _, _, _, h, .inr ⟨rfl, h'⟩⟩
theorem EvD.iDry {at_ i j up : Nat} (hd : S.fuel = 0 ∨ d = true) (h : EvD K S d (.take at_ i j up) b S' d2) : b = false ∧ S' = S ∧ d2 = true := by
  cases h with
  | takeDry _ => exact ⟨rfl, rfl, rfl⟩
  | takeNo _ hf => rcases hd with h | h; (· omega); (· cases h)
  | takeYes _ hf => rcases hd with h | h; (· omega); (· cases h)
  | takeAlt _ hf => rcases hd with h | h; (· omega); (· cases h)
  | takeCat _ hf => rcases hd with h | h; (· omega); (· cases h)
  | takeRep _ hf => rcases hd with h | h; (· omega); (· cases h)
  | takeGrpY _ hf => rcases hd with h | h; (· omega); (· cases h)
  | takeGrpN _ hf => rcases hd with h | h; (· omega); (· cases h)
theorem EvD.iLeaf {at_ i j up : Nat} {x : Nd} (hx : K.re[at_]? = some x) (ho : x.op = 1 ∨ x.op = 2 ∨ x.op = 3 ∨ x.op = 8) (hd : ¬ (S.fuel = 0 ∨ d = true)) (h : EvD K S d (.take at_ i j up) b S' d2) : (¬ K.good x S.cs i j ∧ b = false ∧ S' = S.tick ∧ d2 = false) ∨ (K.good x S.cs i j ∧ EvD K S.tick false (.next up j) b S' d2) := by
  cases h with
  | takeDry h => exact absurd h hd
  | takeNo hx' _ _ hg => rw [hx] at hx'; cases hx'; exact .inl ⟨hg, rfl, rfl, rfl⟩
  | takeYes hx' _ _ hg h => rw [hx] at hx'; cases hx'; exact .inr ⟨hg, h⟩
  | takeAlt hx' _ ho' => rw [hx] at hx'; cases hx'; omega
  | takeCat hx' _ ho' => rw [hx] at hx'; cases hx'; omega
  | takeRep hx' _ ho' => rw [hx] at hx'; cases hx'; omega
  | takeGrpY hx' _ ho' => rw [hx] at hx'; cases hx'; omega
  | takeGrpN hx' _ ho' => rw [hx] at hx'; cases hx'; omega
theorem EvD.iAltT {at_ i j up : Nat} {x : Nd} (hx : K.re[at_]? = some x) (ho : x.op = 5) (hd : ¬ (S.fuel = 0 ∨ d = true)) (h : EvD K S d (.take at_ i j up) b S' d2) : EvD K S.tick false (.alt (at_ + 1) x.kids.toNat i j up) b S' d2 := by
  cases h with
  | takeDry h => exact absurd h hd
  | takeNo hx' _ ho' => rw [hx] at hx'; cases hx'; omega
  | takeYes hx' _ ho' => rw [hx] at hx'; cases hx'; omega
  | takeAlt hx' _ ho' h => rw [hx] at hx'; cases hx'; exact h
  | takeCat hx' _ ho' => rw [hx] at hx'; cases hx'; omega
  | takeRep hx' _ ho' => rw [hx] at hx'; cases hx'; omega
  | takeGrpY hx' _ ho' => rw [hx] at hx'; cases hx'; omega
  | takeGrpN hx' _ ho' => rw [hx] at hx'; cases hx'; omega
theorem EvD.iCat {at_ i j up : Nat} {x : Nd} (hx : K.re[at_]? = some x) (ho : x.op = 4) (hd : ¬ (S.fuel = 0 ∨ d = true)) (h : EvD K S d (.take at_ i j up) b S' d2) : ∃ u S2, S.tick.push ⟨up, at_, at_ + 1, x.kids.toNat, i, j⟩ = (u, S2) ∧ EvD K S2 false (.next u i) b S' d2 := by
  cases h with
  | takeDry h => exact absurd h hd
  | takeNo hx' _ ho' => rw [hx] at hx'; cases hx'; omega
  | takeYes hx' _ ho' => rw [hx] at hx'; cases hx'; omega
  | takeAlt hx' _ ho' => rw [hx] at hx'; cases hx'; omega
  | takeCat hx' _ ho' hp h => rw [hx] at hx'; cases hx'; exact ⟨_, _, hp, h⟩
  | takeRep hx' _ ho' => rw [hx] at hx'; cases hx'; omega
  | takeGrpY hx' _ ho' => rw [hx] at hx'; cases hx'; omega
  | takeGrpN hx' _ ho' => rw [hx] at hx'; cases hx'; omega
theorem EvD.iRep {at_ i j up : Nat} {x : Nd} (hx : K.re[at_]? = some x) (ho : x.op = 6) (hd : ¬ (S.fuel = 0 ∨ d = true)) (h : EvD K S d (.take at_ i j up) b S' d2) : ∃ u S2, S.tick.push ⟨up, at_, 0, 0, 0, j⟩ = (u, S2) ∧ EvD K S2 false (.next u i) b S' d2 := by
  cases h with
  | takeDry h => exact absurd h hd
  | takeNo hx' _ ho' => rw [hx] at hx'; cases hx'; omega
  | takeYes hx' _ ho' => rw [hx] at hx'; cases hx'; omega
  | takeAlt hx' _ ho' => rw [hx] at hx'; cases hx'; omega
  | takeCat hx' _ ho' => rw [hx] at hx'; cases hx'; omega
  | takeRep hx' _ ho' hp h => rw [hx] at hx'; cases hx'; exact ⟨_, _, hp, h⟩
  | takeGrpY hx' _ ho' => rw [hx] at hx'; cases hx'; omega
  | takeGrpN hx' _ ho' => rw [hx] at hx'; cases hx'; omega
theorem EvD.iGrp {at_ i j up : Nat} {x : Nd} (hx : K.re[at_]? = some x) (ho : x.op = 7) (hd : ¬ (S.fuel = 0 ∨ d = true)) (h : EvD K S d (.take at_ i j up) b S' d2) : ∃ u S2 S3, ({ S.tick with cs := fgt (K.inn (at_ + 1) (K.bh at_)) S.cs } : SS).push ⟨up, at_, 0, 0, i, j⟩ = (u, S2) ∧ EvD K S2 false (.take (at_ + 1) i j u) b S3 d2 ∧
    S' = if b = true then S3 else { S3 with cs := rst (K.inn (at_ + 1) (K.bh at_)) (emW (K.inn (at_ + 1) (K.bh at_)) S.cs) S3.cs } := by
  cases h with
  | takeDry h => exact absurd h hd
  | takeNo hx' _ ho' => rw [hx] at hx'; cases hx'; omega
  | takeYes hx' _ ho' => rw [hx] at hx'; cases hx'; omega
  | takeAlt hx' _ ho' => rw [hx] at hx'; cases hx'; omega
  | takeCat hx' _ ho' => rw [hx] at hx'; cases hx'; omega
  | takeRep hx' _ ho' => rw [hx] at hx'; cases hx'; omega
  | takeGrpY hx' _ ho' hp h => rw [hx] at hx'; cases hx'; exact ⟨_, _, _, hp, h, rfl⟩
  | takeGrpN hx' _ ho' hp h => rw [hx] at hx'; cases hx'; exact ⟨_, _, _, hp, h, rfl⟩
theorem EvD.iAlt0 {kid i j up : Nat} (h : EvD K S d (.alt kid 0 i j up) b S' d2) : b = false ∧ S' = S ∧ d2 = d := by cases h; exact ⟨rfl, rfl, rfl⟩
theorem EvD.iAlt {kid l i j up : Nat} (h : EvD K S d (.alt kid (l + 1) i j up) b S' d2) : ∃ b1 S1 d1, EvD K S d (.take kid i j up) b1 S1 d1 ∧ ((b1 = true ∧ b = true ∧ S' = S1 ∧ d2 = d1) ∨ (b1 = false ∧ EvD K S1 d1 (.alt (K.bh kid) l i j up) b S' d2)) := by
  cases h with
  | altYes h => exact ⟨_, _, _, h, .inl ⟨rfl, rfl, rfl, rfl⟩⟩
  | altNo h h' => exact ⟨_, _, _, h, .inr ⟨rfl, h'⟩⟩
end
theorem EvD.mono {K : SrE} {S S' : SS} {q : SQ} {b d d2 : Bool} (h : EvD K S d q b S' d2) : Gr S S' := by
  induction h with
  | takeDry _ => exact .refl
  | takeNo hx hf ho hg => exact tick_gr
  | takeYes hx hf ho hg h ih => exact tick_gr.trans ih
  | takeAlt hx hf ho h ih => exact tick_gr.trans ih
  | takeCat hx hf ho hp h ih => exact tick_gr.trans ((push_gr hp).trans ih)
  | takeRep hx hf ho hp h ih => exact tick_gr.trans ((push_gr hp).trans ih)
  | takeGrpY hx hf ho hp h ih => exact tick_gr.trans ((cs_gr (fgt_len _ _)).trans ((push_gr hp).trans ih))
  | takeGrpN hx hf ho hp h ih => exact tick_gr.trans ((cs_gr (fgt_len _ _)).trans ((push_gr hp).trans (ih.trans (cs_gr (rst_len _ _ _)))))
  | altNil => exact .refl
  | altYes h ih => exact ih
  | altNo h h' ih ih' => exact ih.trans ih'
  | nextZero => exact .refl
  | nextMemo h => exact code_gr
  | @nextGo d d2 S S2 k at_ f b hn hf h ih =>
    have g : Gr _ (if d2 = true then S2 else S2.fail b ⟨k + 1, at_, (K.code S).1⟩) := ih.trans (by split; (· exact .refl); (· exact fail_gr (b := b) (p := ⟨k + 1, at_, (K.code S).1⟩)))
    exact (code_gr (K := K) (S := S)).trans ⟨g.fs, g.ts, g.fuel, g.cs⟩
  | bodyCat hx ho h ih => exact ih
  | bodyRep hx ho h ih => exact ih
  | bodyGrpY hx h4 h6 h ih => exact (cs_gr (List.length_set ..)).trans ih
  | bodyGrpN hx h4 h6 h ih => exact (cs_gr (List.length_set ..)).trans (ih.trans (cs_gr (List.length_set ..)))
  | rowZN hl he => exact .refl
  | rowZ hl he h ih => exact ih
  | rowS hl hp h ih => exact (push_gr hp).trans ih
  | rowLNil => exact .refl
  | rowLYes h ih => exact ih
  | rowLLast hl h ih => exact ih
  | rowLNo hl h h' ih ih' => exact ih.trans ih'
  | rndYes hx hm hp h ih => exact (push_gr hp).trans ih
  | rndEnd hx hm hp h he h' ih ih' => exact (push_gr hp).trans (ih.trans ih')
  | rndNo hx hm hp h he ih => exact (push_gr hp).trans ih
  | rnd0End hx hm he h' ih' => exact ih'
  | rnd0No hx hm he => exact .refl
  | rndLNil => exact .refl
  | rndLBrk hx hb => exact .refl
  | rndLYes hx hb h ih => exact (cs_gr (fgt_len _ _)).trans ih
  | rndLNo hx hb h h' ih ih' => exact (cs_gr (fgt_len _ _)).trans (ih.trans ((cs_gr (rst_len _ _ _)).trans ih'))
end Go.HL.Kl.Mc
