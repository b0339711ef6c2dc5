/- Back-references: how many takes a whole search has. Here: the rank of what is still to do, which falls with each step; so no point is met within itself. Conditions: none. -/
import Derived.Test.YtloepfcndglmmaaDoorUB1Z
import Derived.Test.YtloepfcndglmmaaDoorBS5Z
import Derived.Test.YtloepfcndglmmaaDoorBS1Z
import Derived.Test.YtloepfcndglmmaaDoorBE1Z
namespace Go.HL.Kl.Mc
open Go Go.HL Go.HL.Kl AskE
def satM (x : Nd) : Nat := if x.mx < 0 then max x.mn.toNat 1 else x.mx.toNat
def potF (n : Nat) : F → Nat
  | .nil => 0
  | .nd x ks r => (if x.op = 6 then (n + 1) * (satM x + 1) * (potF n ks + 2) + 2 else potF n ks + 2) + potF n r
def rlN (x : Nd) (f : Frm) (at_ : Nat) : Nat := (f.to - at_) * (satM x + 1) + (satM x - f.kid)
namespace SrE
variable (K : SrE)
noncomputable def rkF (fs : List Frm) : Nat → Nat → Nat → Nat
  | 0, _, _ => 0
  | n + 1, u, at_ => if u = 0 then 0 else match fs[u - 1]? with
    | none => 0
    | some f => match K.re[f.node]? with
      | none => 0
      | some x =>
        if x.op = 4 then potF K.w.length (foAt K.re f.kid f.left) + 1 + rkF fs n f.up f.to
        else if x.op = 6 then rlN x f at_ * (potF K.w.length (foAt K.re (f.node + 1) 1) + 2) + 1 + rkF fs n f.up f.to
        else 1 + rkF fs n f.up at_
noncomputable def rk (fs : List Frm) (u at_ : Nat) : Nat := K.rkF fs u u at_
variable {K : SrE}
theorem rkF_up {fs : List Frm} (hc : Chn fs) : ∀ (u n : Nat), u ≤ n → ∀ (at_ : Nat), K.rkF fs n u at_ = K.rkF fs u u at_ := by
  intro u
  induction u using Nat.strongRecOn with
  | ind u ih =>
    intro n hn at_
    cases u with
    | zero => cases n <;> simp [rkF]
    | succ k =>
      obtain ⟨m, rfl⟩ : ∃ m, n = m + 1 := ⟨n - 1, by omega⟩
      rw [rkF, rkF]
      simp only [Nat.add_one_ne_zero, if_false, Nat.add_sub_cancel]
      cases hf : fs[k]? with
      | none => rfl
      | some f =>
        have hu := hc k f hf
        have e2 : K.rkF fs m f.up = K.rkF fs k f.up := by
          funext a
          rw [ih f.up (by omega) m (by omega), ih f.up (by omega) k hu]
        simp only [e2]
theorem rk_succ {fs : List Frm} (hc : Chn fs) {k : Nat} {f : Frm} {x : Nd} (hf : fs[k]? = some f) (hx : K.re[f.node]? = some x) {at_ : Nat} : K.rk fs (k + 1) at_ =
    (if x.op = 4 then potF K.w.length (foAt K.re f.kid f.left) + 1 + K.rk fs f.up f.to
    else if x.op = 6 then rlN x f at_ * (potF K.w.length (foAt K.re (f.node + 1) 1) + 2) + 1 + K.rk fs f.up f.to
    else 1 + K.rk fs f.up at_) := by
  have e : K.rkF fs k f.up = K.rk fs f.up := by funext a; exact rkF_up hc f.up k (hc k f hf) a
  unfold rk at e ⊢
  rw [rkF]
  simp only [Nat.add_one_ne_zero, if_false, Nat.add_sub_cancel, hf, hx, e]
theorem rk_ext {fs gs : List Frm} (hc : Chn fs) (hc' : Chn (fs ++ gs)) : ∀ (u : Nat), u ≤ fs.length → ∀ (at_ : Nat), K.rk (fs ++ gs) u at_ = K.rk fs u at_ := by
  intro u
  induction u using Nat.strongRecOn with
  | ind u ih =>
    intro hu at_
    cases u with
    | zero => rfl
    | succ k =>
      have hk : fs[k]? = some fs[k] := List.getElem?_eq_getElem (by omega)
      have hk' : (fs ++ gs)[k]? = some fs[k] := by rw [List.getElem?_append_left (by omega)]; exact hk
      have hup := hc k _ hk
      cases hx : K.re[(fs[k]).node]? with
      | none =>
        unfold rk
        rw [rkF, rkF]
        simp only [Nat.add_one_ne_zero, if_false, Nat.add_sub_cancel, hk, hk', hx]
      | some x =>
        have e : K.rk (fs ++ gs) (fs[k]).up = K.rk fs (fs[k]).up := by funext a; exact ih _ (by omega) (by omega) a
        rw [rk_succ hc' hk' hx, rk_succ hc hk hx, e]
end SrE
noncomputable def SrE.cst (K : SrE) (f : Frm) : Nat := match K.re[f.node]? with
  | none => 0
  | some x => if x.op = 4 then (if f.left = 0 then 0 else (K.w.length + 1) * (foAt K.re f.kid 1).size) else if x.op = 6 then (K.w.length + 1) * (foAt K.re (f.node + 1) 1).size else 0
noncomputable def SrE.cstP (K : SrE) (fs : List Frm) (p : Pt) : Nat := match fs[p.u - 1]? with
  | none => 0
  | some f => K.cst f
/-! where a tree lies among others -/
def RestAt : F → Nat → Nat → F → Prop
  | .nil, p, q, g => p = q ∧ g = .nil
  | .nd y js r, p, q, g => (p = q ∧ g = .nd y js r) ∨ RestAt r (p + 1 + js.size) q g
theorem RestAt.refl : ∀ {f : F} {p : Nat}, RestAt f p p f
  | .nil, _ => ⟨rfl, rfl⟩
  | .nd _ _ _, _ => .inl ⟨rfl, rfl⟩
theorem RestAt.next : ∀ {f : F} {p q : Nat} {y : Nd} {js r : F}, RestAt f p q (.nd y js r) → RestAt f p (q + 1 + js.size) r
  | .nil, _, _, _, _, _, h => by cases h.2
  | .nd z ks s, p, q, y, js, r, h => by
    rcases h with ⟨rfl, h⟩ | h
    · cases h
      exact .inr RestAt.refl
    · exact .inr h.next
inductive AltR (re : List Nd) (s : Nat) : Nat → Prop
  | refl : AltR re s s
  | step {b q e : Nat} {x y : Nd} {ks js r : F} (h : AltR re s b) (hp : Part re (.nd x ks .nil) b e) (ho : x.op = 5) (hr : RestAt ks (b + 1) q (.nd y js r)) : AltR re s q
def Slot (K : SrE) (g : Frm) (s : Nat) : Prop := ∃ x ks e, Part K.re (.nd x ks .nil) g.node e ∧ ((x.op = 4 ∧ ∃ y js r, RestAt ks (g.node + 1) s (.nd y js r) ∧ g.kid = s + 1 + js.size ∧ g.left = r.num ∧ g.fr = 0) ∨ ((x.op = 6 ∧ 1 ≤ g.kid ∨ x.op = 7) ∧ s = g.node + 1))
def UpAt (K : SrE) (fs : List Frm) (up a : Nat) : Prop := ∃ s, ((up = 0 ∧ s = 0) ∨ ∃ k g, up = k + 1 ∧ fs[k]? = some g ∧ Slot K g s) ∧ AltR K.re s a
def ShOk (K : SrE) (f : Frm) : Prop := ∃ x ks e, Part K.re (.nd x ks .nil) f.node e ∧ f.to ≤ K.w.length ∧ f.fr ≤ K.w.length ∧
  ((x.op = 4 ∧ ∃ g, RestAt ks (f.node + 1) f.kid g ∧ g.num = f.left ∧ (f.fr = 0 ∨ (f.kid = f.node + 1 ∧ f.left = ks.num))) ∨ (x.op = 6 ∧ f.kid ≤ satM x ∧ f.left = 0 ∧ f.fr = 0) ∨ (x.op = 7 ∧ f.kid = 0 ∧ f.left = 0))
def FrU (K : SrE) (fs : List Frm) (f : Frm) : Prop := ShOk K f ∧ UpAt K fs f.up f.node
theorem UpAt.ext {K : SrE} {fs gs : List Frm} {up a : Nat} (h : UpAt K fs up a) : UpAt K (fs ++ gs) up a := by
  obtain ⟨s, h1, h2⟩ := h
  refine ⟨s, ?_, h2⟩
  rcases h1 with h1 | ⟨k, g, h3, h4, h5⟩
  · exact .inl h1
  · exact .inr ⟨k, g, h3, by rw [List.getElem?_append_left (List.getElem?_eq_some_iff.1 h4).1]; exact h4, h5⟩
theorem FrU.ext {K : SrE} {fs gs : List Frm} {f : Frm} (h : FrU K fs f) : FrU K (fs ++ gs) f := ⟨h.1, h.2.ext⟩
structure FrsOk (K : SrE) (S : SS) : Prop where
  fr : ∀ f ∈ S.fs, FrOk K f
  ch : Chn S.fs
  sp : ∀ s ∈ S.cs, SpOk K s
  nd : S.ts.Nodup
  up : ∀ f ∈ S.fs, FrU K S.fs f
  fn : S.fs.Nodup
theorem FrsOk.cs {K : SrE} {S S' : SS} (h : FrsOk K S) (h1 : S'.fs = S.fs) (h2 : S'.ts = S.ts) (h3 : ∀ s ∈ S'.cs, SpOk K s) : FrsOk K S' := ⟨by rw [h1]; exact h.fr, by rw [h1]; exact h.ch, h3, by rw [h2]; exact h.nd, by rw [h1]; exact h.up, by rw [h1]; exact h.fn⟩
def PtOk (K : SrE) (S : SS) (p : Pt) : Prop := 1 ≤ p.u ∧ p.u ≤ S.fs.length ∧ p.at_ ≤ K.w.length ∧ ∃ cs : List Sp, (∀ s ∈ cs, SpOk K s) ∧ Dec S.ts 0 (chunks (K.proj cs)) p.tk
def Gd (K : SrE) (S S' : SS) (bd fc : Nat) (b : Bool) : Prop :=
  FrsOk K S' ∧ (∃ a, S'.fs = S.fs ++ a) ∧ (∃ a, S'.ts = S.ts ++ a) ∧ ∃ T N : List Pt, (b = false → T = []) ∧ S'.F = N ++ S.F ∧ (∀ p ∈ T ++ N, PtOk K S' p ∧ K.rk S'.fs p.u p.at_ < bd) ∧ (S.F.Nodup → (T ++ (N ++ S.F)).Nodup) ∧
    S.fuel ≤ S'.fuel + fc + ((T ++ N).map (K.cstP S'.fs)).sum
section
variable {K : SrE} {S S0 S1 S' : SS} {bd bd' fc fc' k : Nat} {b : Bool}
theorem Gd.mono (h : Gd K S S' bd fc b) (h1 : bd ≤ bd') (h2 : fc ≤ fc') : Gd K S S' bd' fc' b := by
  obtain ⟨a1, a2, a8, T, N, a3, a4, a5, a6, a7⟩ := h
  exact ⟨a1, a2, a8, T, N, a3, a4, fun p hp => ⟨(a5 p hp).1, Nat.lt_of_lt_of_le (a5 p hp).2 h1⟩, a6, by omega⟩
theorem Gd.reflT (h : FrsOk K S) (bd : Nat) (b : Bool) : Gd K S S bd 0 b := ⟨h, ⟨[], by simp⟩, ⟨[], by simp⟩, [], [], fun _ => rfl, rfl, fun p hp => (by cases hp), fun h => h, by simp⟩
theorem Gd.refl (h : FrsOk K S) (bd : Nat) : Gd K S S bd 0 false := Gd.reflT h bd false
theorem cstP_ext {fs gs : List Frm} {p : Pt} (h : 1 ≤ p.u ∧ p.u ≤ fs.length) : K.cstP (fs ++ gs) p = K.cstP fs p := by
  unfold SrE.cstP
  rw [List.getElem?_append_left (by have := h.1; have := h.2; omega)]
theorem map_cst_ext {fs gs : List Frm} {l : List Pt} (h : ∀ p ∈ l, 1 ≤ p.u ∧ p.u ≤ fs.length) : l.map (K.cstP (fs ++ gs)) = l.map (K.cstP fs) := List.map_congr_left fun p hp => cstP_ext (h p hp)
theorem PtOk.ext {p : Pt} (h : PtOk K S p) (h1 : ∃ a, S'.fs = S.fs ++ a) (h2 : ∃ a, S'.ts = S.ts ++ a) : PtOk K S' p := by
  obtain ⟨a1, a2, a3, cs, a4, a5⟩ := h
  obtain ⟨a, ha⟩ := h1
  obtain ⟨e, he⟩ := h2
  exact ⟨a1, by rw [ha, List.length_append]; omega, a3, cs, a4, by rw [he]; exact a5.mono⟩
theorem Gd.trans (h : Gd K S S1 bd fc false) (h' : Gd K S1 S' bd fc' b) : Gd K S S' bd (fc + fc') b := by
  obtain ⟨a1, ⟨x, hx⟩, ⟨z, hz⟩, T, N, a3, a4, a5, a6, a7⟩ := h
  obtain ⟨b1, ⟨y, hy⟩, ⟨v, hv⟩, T2, N2, b3, b4, b5, b6, b7⟩ := h'
  obtain rfl := a3 rfl
  have hc' := b1.ch
  rw [hy] at hc'
  have a5' : ∀ p ∈ N, PtOk K S1 p := fun p hp => (a5 p (by simpa using hp)).1
  refine ⟨b1, ⟨x ++ y, by rw [hy, hx, List.append_assoc]⟩, ⟨z ++ v, by rw [hv, hz, List.append_assoc]⟩, T2, N2 ++ N, b3, by rw [b4, a4, List.append_assoc], fun p hp => ?_, fun hn => ?_, ?_⟩
  · rcases List.mem_append.1 hp with hp | hp
    · exact b5 p (List.mem_append_left _ hp)
    rcases List.mem_append.1 hp with hp | hp
    · exact b5 p (List.mem_append_right _ hp)
    · obtain ⟨c1, c2⟩ := a5 p (by simpa using hp)
      exact ⟨c1.ext ⟨y, hy⟩ ⟨v, hv⟩, by rw [hy, SrE.rk_ext a1.ch hc' _ c1.2.1]; exact c2⟩
  · have := b6 (by rw [a4]; simpa using a6 hn)
    rw [a4] at this
    simpa [List.append_assoc] using this
  · rw [← List.append_assoc, List.map_append, List.sum_append]
    have e1 : N.map (K.cstP S'.fs) = N.map (K.cstP S1.fs) := by rw [hy]; exact map_cst_ext fun p hp => ⟨(a5' p hp).1, (a5' p hp).2.1⟩
    rw [e1]
    simp only [List.nil_append] at a7
    omega
theorem Gd.preT (h : Gd K S S' bd fc b) (hf : ∃ a, S.fs = S0.fs ++ a) (ht : ∃ a, S.ts = S0.ts ++ a) (hF : S.F = S0.F) (hk : S0.fuel ≤ S.fuel + k) : Gd K S0 S' bd (fc + k) b := by
  obtain ⟨a1, ⟨x, hx⟩, ⟨z, hz⟩, T, N, a3, a4, a5, a6, a7⟩ := h
  obtain ⟨a, ha⟩ := hf
  obtain ⟨e, he⟩ := ht
  exact ⟨a1, ⟨a ++ x, by rw [hx, ha, List.append_assoc]⟩, ⟨e ++ z, by rw [hz, he, List.append_assoc]⟩, T, N, a3, by rw [a4, hF], a5, by rw [← hF]; exact a6, by omega⟩
theorem Gd.pre (h : Gd K S S' bd fc b) (hf : ∃ a, S.fs = S0.fs ++ a) (ht : S.ts = S0.ts) (hF : S.F = S0.F) (hk : S0.fuel ≤ S.fuel + k) : Gd K S0 S' bd (fc + k) b := h.preT hf ⟨[], by rw [ht]; simp⟩ hF hk
theorem Gd.post (h : Gd K S S1 bd fc b) (hs : ∀ s ∈ S'.cs, SpOk K s) (h1 : S'.fs = S1.fs) (h2 : S'.F = S1.F) (h3 : S'.fuel = S1.fuel) (h4 : S'.ts = S1.ts) : Gd K S S' bd fc b := by
  obtain ⟨a1, a2, ⟨z, hz⟩, T, N, a3, a4, a5, a6, a7⟩ := h
  exact ⟨a1.cs h1 h4 hs, by rw [h1]; exact a2, ⟨z, by rw [h4, hz]⟩, T, N, a3, by rw [h2]; exact a4, fun p hp => ⟨(a5 p hp).1.ext ⟨[], by rw [h1]; simp⟩ ⟨[], by rw [h4]; simp⟩, by rw [h1]; exact (a5 p hp).2⟩, a6, by rw [h1, h3]; exact a7⟩
end
end Go.HL.Kl.Mc
namespace Go.HL.Kl.Mc
open Go Go.HL Go.HL.Kl AskE
noncomputable def SrE.fRk (K : SrE) (fs : List Frm) (f : Frm) (at_ : Nat) : Nat := match K.re[f.node]? with
  | none => 0
  | some x => if x.op = 4 then potF K.w.length (foAt K.re f.kid f.left) + 1 + K.rk fs f.up f.to
    else if x.op = 6 then rlN x f at_ * (potF K.w.length (foAt K.re (f.node + 1) 1) + 2) + 1 + K.rk fs f.up f.to
    else 1 + K.rk fs f.up at_
noncomputable def bdQ (K : SrE) (fs : List Frm) : SQ → Nat
  | .take at_ _ j up => potF K.w.length (foAt K.re at_ 1) + K.rk fs up j
  | .alt kid left _ j up => potF K.w.length (foAt K.re kid left) + K.rk fs up j
  | .next u at_ => K.rk fs u at_ + 1
  | .body f at_ => K.fRk fs f at_
  | .row f at_ => K.fRk fs f at_
  | .rowL f _ at_ _ => K.fRk fs f at_
  | .rnd f at_ => K.fRk fs f at_
  | .rndL f _ at_ _ => K.fRk fs f at_
noncomputable def fcQ (K : SrE) : SQ → Nat
  | .take at_ _ _ _ => (foAt K.re at_ 1).size
  | .alt kid left _ _ _ => (foAt K.re kid left).size
  | .next _ _ => 0
  | .body f _ => K.cst f
  | .row f _ => K.cst f
  | .rowL f _ _ es => es.length * (foAt K.re f.kid 1).size
  | .rnd f _ => K.cst f
  | .rndL f _ _ es => es.length * (foAt K.re (f.node + 1) 1).size
def LgQ (K : SrE) (S : SS) : SQ → Prop
  | .take at_ i j up => (∃ x ks e, Part K.re (.nd x ks .nil) at_ e) ∧ i ≤ j ∧ j ≤ K.w.length ∧ up ≤ S.fs.length ∧ UpAt K S.fs up at_
  | .alt kid left i j up => (∃ g e, Part K.re g kid e ∧ g.num = left ∧ ∀ q y js r, RestAt g kid q (.nd y js r) → UpAt K S.fs up q) ∧ i ≤ j ∧ j ≤ K.w.length ∧ up ≤ S.fs.length
  | .next u at_ => u ≤ S.fs.length ∧ at_ ≤ K.w.length
  | .body f at_ => (FrOk K f ∧ FrU K S.fs f) ∧ f.up ≤ S.fs.length ∧ at_ ≤ K.w.length
  | .row f at_ => (FrOk K f ∧ FrU K S.fs f) ∧ f.up ≤ S.fs.length ∧ at_ ≤ K.w.length ∧ ∃ x, K.re[f.node]? = some x ∧ x.op = 4
  | .rowL f u at_ es => (FrOk K f ∧ FrU K S.fs f) ∧ f.up ≤ S.fs.length ∧ at_ ≤ K.w.length ∧ (∃ x, K.re[f.node]? = some x ∧ x.op = 4) ∧ ∃ l k, f.left = l + 1 ∧ u = k + 1 ∧ S.fs[k]? = some { f with kid := K.bh f.kid, left := l, fr := 0 } ∧ ∀ e ∈ es, at_ ≤ e ∧ e ≤ f.to
  | .rnd f at_ => (FrOk K f ∧ FrU K S.fs f) ∧ f.up ≤ S.fs.length ∧ at_ ≤ K.w.length ∧ ∃ x, K.re[f.node]? = some x ∧ x.op = 6
  | .rndL f u at_ es => (FrOk K f ∧ FrU K S.fs f) ∧ f.up ≤ S.fs.length ∧ at_ ≤ K.w.length ∧ ∃ x k, K.re[f.node]? = some x ∧ x.op = 6 ∧ (x.mx < 0 ∨ (f.kid : Int) < x.mx) ∧ u = k + 1 ∧ S.fs[k]? = some { f with kid := satK x f.kid } ∧ ∀ e ∈ es, at_ ≤ e ∧ e ≤ f.to
theorem push_gd {K : SrE} {S S1 : SS} {f : Frm} {u : Nat} (h : S.push f = (u, S1)) (hS : FrsOk K S) (hf : FrOk K f) (hfu : FrU K S.fs f) (hu : f.up ≤ S.fs.length) :
    FrsOk K S1 ∧ (∃ a, S1.fs = S.fs ++ a) ∧ S1.F = S.F ∧ S1.fuel = S.fuel ∧ S1.ts = S.ts ∧ ∃ k, u = k + 1 ∧ S1.fs[k]? = some f := by
  unfold SS.push at h
  split at h
  · rename_i k hk
    cases h
    exact ⟨hS, ⟨[], by simp⟩, rfl, rfl, rfl, k, rfl, fnd_some hk⟩
  · rename_i hk
    cases h
    refine ⟨⟨fun g hg => ?_, hS.ch.snoc hu, hS.sp, hS.nd, fun g hg => ?_, ?_⟩, ⟨[f], rfl⟩, rfl, rfl, rfl, S.fs.length, rfl, by simp⟩
    · rcases List.mem_append.1 hg with hg | hg
      · exact hS.fr g hg
      · rw [List.mem_singleton.1 hg]; exact hf
    · rcases List.mem_append.1 hg with hg | hg
      · exact (hS.up g hg).ext
      · rw [List.mem_singleton.1 hg]; exact hfu.ext
    · exact List.nodup_append.2 ⟨hS.fn, by simp, fun a ha b hb => by
        obtain rfl := List.mem_singleton.1 hb
        intro e; subst e
        exact fnd_none hk ha⟩
section
variable {K : SrE} {S S1 S' : SS}
theorem rkx (hS : FrsOk K S) (hS1 : FrsOk K S1) (hx : ∃ a, S1.fs = S.fs ++ a) {u v : Nat} (hu : u ≤ S.fs.length) : K.rk S1.fs u v = K.rk S.fs u v := by
  obtain ⟨a, ha⟩ := hx
  have := hS1.ch
  rw [ha] at this ⊢
  exact SrE.rk_ext hS.ch this u hu v
theorem fRkx (hS : FrsOk K S) (hS1 : FrsOk K S1) (hx : ∃ a, S1.fs = S.fs ++ a) {f : Frm} {v : Nat} (hu : f.up ≤ S.fs.length) : K.fRk S1.fs f v = K.fRk S.fs f v := by
  unfold SrE.fRk
  rw [rkx hS hS1 hx hu, rkx hS hS1 hx hu]
theorem rk_frm (hS : FrsOk K S) {k : Nat} {f : Frm} (hf : S.fs[k]? = some f) {at_ : Nat} : K.rk S.fs (k + 1) at_ = K.fRk S.fs f at_ := by
  obtain ⟨x, ks, e, hp, _⟩ := hS.fr f (List.mem_of_getElem? hf)
  rw [SrE.rk_succ hS.ch hf hp.head.1, SrE.fRk, hp.head.1]
theorem fRk4 {f : Frm} {x : Nd} {fs : List Frm} {at_ : Nat} (hx : K.re[f.node]? = some x) (ho : x.op = 4) : K.fRk fs f at_ = potF K.w.length (foAt K.re f.kid f.left) + 1 + K.rk fs f.up f.to := by rw [SrE.fRk, hx]; simp only [ho, if_true]
theorem fRk6 {f : Frm} {x : Nd} {fs : List Frm} {at_ : Nat} (hx : K.re[f.node]? = some x) (ho : x.op = 6) : K.fRk fs f at_ = rlN x f at_ * (potF K.w.length (foAt K.re (f.node + 1) 1) + 2) + 1 + K.rk fs f.up f.to := by
  rw [SrE.fRk, hx]; simp only [ho]; rw [if_neg (by decide), if_pos trivial]
theorem fRk7 {f : Frm} {x : Nd} {fs : List Frm} {at_ : Nat} (hx : K.re[f.node]? = some x) (h4 : ¬ x.op = 4) (h6 : ¬ x.op = 6) : K.fRk fs f at_ = 1 + K.rk fs f.up at_ := by rw [SrE.fRk, hx]; simp only [h4, h6, if_false]
theorem fo1 {x : Nd} {ks r : F} {k e : Nat} (h : Part K.re (.nd x ks r) k e) : foAt K.re k 1 = .nd x ks .nil := foAt_eq h.one
theorem pot1 {n : Nat} {x : Nd} {ks : F} : 2 ≤ potF n (.nd x ks .nil) := by
  rw [potF]; split <;> omega
theorem pot_n6 {n : Nat} {x : Nd} {ks r : F} (h : ¬ x.op = 6) : potF n (.nd x ks r) = potF n ks + 2 + potF n r := by rw [potF, if_neg h]
theorem ends_length {p q : Nat} : (ends p q).length = q + 1 - p := by
  have : ∀ k, (down p k).length = k := fun k => by
    induction k with
    | zero => rfl
    | succ k ih => rw [down, List.length_cons, ih]
  rw [ends, this]
theorem Gd.point {f : Frm} {k at_ t bd : Nat} {b : Bool} (h : Gd K S S1 (K.fRk S.fs f at_) (K.cst f) b) (hS : FrsOk K S) (hf : S.fs[k]? = some f) (hn : (⟨k + 1, at_, t⟩ : Pt) ∉ S.F) (hb : K.fRk S.fs f at_ < bd) (hat : at_ ≤ K.w.length) (hd : ∃ cs : List Sp, (∀ s ∈ cs, SpOk K s) ∧ Dec S1.ts 0 (chunks (K.proj cs)) t) : Gd K S (S1.fail b ⟨k + 1, at_, t⟩) bd 0 b := by
  obtain ⟨a1, ⟨a, ha⟩, a8, T, N, a3, a4, a5, a6, a7⟩ := h
  have hk := (List.getElem?_eq_some_iff.1 hf).1
  have hf1 : S1.fs[k]? = some f := by rw [ha, List.getElem?_append_left hk]; exact hf
  have hr : K.rk S1.fs (k + 1) at_ = K.fRk S.fs f at_ := by
    rw [rkx hS a1 ⟨a, ha⟩ (by omega), rk_frm hS hf]
  have hc : K.cstP S1.fs ⟨k + 1, at_, t⟩ = K.cst f := by
    show (match S1.fs[k + 1 - 1]? with | none => 0 | some f => K.cst f) = _
    rw [Nat.add_sub_cancel, hf1]
  have hp0 : PtOk K S1 ⟨k + 1, at_, t⟩ := ⟨by show 1 ≤ k + 1; omega, by show k + 1 ≤ _; rw [ha, List.length_append]; omega, hat, hd⟩
  have hnew : (⟨k + 1, at_, t⟩ : Pt) ∉ T ++ N := fun hm => by
    have := (a5 _ hm).2
    rw [hr] at this
    omega
  have hnew2 : (⟨k + 1, at_, t⟩ : Pt) ∉ T ++ (N ++ S.F) := fun hm => by
    rw [← List.append_assoc] at hm
    rcases List.mem_append.1 hm with hm | hm
    · exact hnew hm
    · exact hn hm
  have h5 : ∀ p ∈ T ++ N, PtOk K S1 p ∧ K.rk S1.fs p.u p.at_ < bd := fun p hp => ⟨(a5 p hp).1, by have := (a5 p hp).2; omega⟩
  have h5' : PtOk K S1 ⟨k + 1, at_, t⟩ ∧ K.rk S1.fs (⟨k + 1, at_, t⟩ : Pt).u (⟨k + 1, at_, t⟩ : Pt).at_ < bd := ⟨hp0, by show K.rk S1.fs (k + 1) at_ < bd; rw [hr]; exact hb⟩
  cases b with
  | true =>
    refine ⟨a1, ⟨a, ha⟩, a8, ⟨k + 1, at_, t⟩ :: T, N, fun h => (by cases h), a4, fun p hp => ?_, fun hnd => List.nodup_cons.2 ⟨hnew2, a6 hnd⟩, ?_⟩
    · rcases List.mem_cons.1 hp with rfl | hp
      · exact h5'
      · exact h5 p hp
    · show S.fuel ≤ S1.fuel + 0 + ((⟨k + 1, at_, t⟩ :: (T ++ N)).map (K.cstP S1.fs)).sum
      rw [List.map_cons, List.sum_cons, hc]; omega
  | false =>
    obtain rfl := a3 rfl
    refine ⟨a1.cs rfl rfl a1.sp, ⟨a, ha⟩, a8, [], ⟨k + 1, at_, t⟩ :: N, fun _ => rfl, by show _ :: S1.F = _; rw [a4]; rfl, fun p hp => ?_, fun hnd => ?_, ?_⟩
    · rcases List.mem_cons.1 hp with rfl | hp
      · exact h5'
      · exact h5 p hp
    · exact List.nodup_cons.2 ⟨hnew2, a6 hnd⟩
    · show S.fuel ≤ S1.fuel + 0 + ((⟨k + 1, at_, t⟩ :: N).map (K.cstP S1.fs)).sum
      simp only [List.nil_append] at a7
      rw [List.map_cons, List.sum_cons, hc]; omega
end
end Go.HL.Kl.Mc
namespace Go.HL.Kl.Mc
open Go Go.HL Go.HL.Kl
def Rel (l : List Caps) (D : Prop) (b : Sp → List Sp) : Prop := (D ∧ ∃ c', l.head? = some c' ∧ ∀ z, b z = z :: c') ∨ (¬ D ∧ l = [])
def OkN (x : Nd) : Prop := (1 ≤ x.op ∧ x.op ≤ 7) ∧ (x.op = 7 → 1 ≤ x.n) ∧ (x.op = 6 → x.mx = -1 ∨ 0 ≤ x.mx)
end Go.HL.Kl.Mc
namespace Go.HL.Kl.Mc
open Go Go.HL Go.HL.Kl AskE
theorem kids_num {re : List Nd} {x : Nd} {ks : F} {i e : Nat} (hp : Part re (.nd x ks .nil) i e) : ks.num = x.kids.toNat := by
  have h : (ks.num : Int) = x.kids := hp.wf.2.1
  omega
theorem op6_rng {x : Nd} (h : ndOk x = true) (h6 : x.op = 6) : (0 ≤ x.mn ∧ x.mn ≤ 255) ∧ (x.mx = -1 ∨ (0 ≤ x.mx ∧ x.mx ≤ 255)) := by
  simp only [ndOk, flds, Bool.and_eq_true, h6, if_true, decide_eq_true_eq] at h
  have := h.1.2
  omega
theorem RestAt.part {re : List Nd} : ∀ {f g : F} {p q e : Nat}, RestAt f p q g → Part re f p e → ∃ e2, Part re g q e2
  | .nil, g, p, q, e, h, hp => by obtain ⟨rfl, rfl⟩ := h; exact ⟨_, hp⟩
  | .nd y js r, g, p, q, e, h, hp => by
    rcases h with ⟨rfl, rfl⟩ | h
    · exact ⟨_, hp⟩
    · exact h.part hp.head.2.2
section
variable {K : SrE}
theorem rl_step {x : Nd} {f g : Frm} {at_ e : Nat} (hg : g = { f with kid := satK x f.kid }) (hm : x.mx < 0 ∨ (f.kid : Int) < x.mx) (h1 : at_ ≤ e) (h2 : e ≤ f.to) (hb : ¬ brk x f at_ e) : rlN x g e + 1 ≤ rlN x f at_ := by
  subst hg
  unfold rlN
  dsimp only
  unfold brk at hb
  by_cases he : e = at_
  · subst he
    have hk : satK x f.kid = f.kid + 1 ∧ f.kid < satM x := by
      unfold satK satM
      by_cases hx : x.mx < 0
      · rw [if_pos hx, if_pos hx]; omega
      · rw [if_neg hx, if_neg hx]; omega
    omega
  · have : (f.to - at_) * (satM x + 1) = (f.to - e) * (satM x + 1) + (e - at_) * (satM x + 1) := by rw [← Nat.add_mul]; congr 1; omega
    have h3 : satM x + 1 ≤ (e - at_) * (satM x + 1) := Nat.le_mul_of_pos_left _ (by omega)
    omega
theorem rl_start {x : Nd} {f : Frm} {at_ n : Nat} (h : f.to ≤ n) : rlN x f at_ ≤ (n + 1) * (satM x + 1) := by
  unfold rlN
  have h1 : (f.to - at_) * (satM x + 1) ≤ n * (satM x + 1) := Nat.mul_le_mul_right _ (by omega)
  rw [Nat.add_mul]; omega
theorem getD_ok {cs : List Sp} {n : Nat} (h : ∀ s ∈ cs, SpOk K s) : SpOk K (cs.getD n noS) := by
  rw [List.getD_eq_getElem?_getD]
  cases hc : cs[n]? with
  | none => exact .inl rfl
  | some s => exact h s (List.mem_of_getElem? hc)
theorem set_ok {S : SS} {f : Frm} {x : Nd} {n : Nat} (hS : FrsOk K S) (h1 : FrOk K f) (hx : K.re[f.node]? = some x) (h4 : ¬ x.op = 4) (h6 : ¬ x.op = 6) : ∀ s ∈ S.cs.set n ⟨(f.fr : Nat), (f.to : Nat)⟩, SpOk K s := fun s hs => by
  obtain ⟨x', ks, e, hp, hto, hc⟩ := h1
  have e0 := hp.head.1
  rw [hx] at e0
  obtain rfl := Option.some.inj e0
  rcases List.mem_or_eq_of_mem_set hs with hs | rfl
  · exact hS.sp s hs
  · rcases hc with h | h | h
    · exact absurd h.1 h4
    · exact absurd h.1 h6
    · exact .inr ⟨by simp, by simpa using h.2, by simpa using hto⟩
theorem frU_row {S : SS} {f : Frm} {x : Nd} {l : Nat} (h : FrU K S.fs f) (hx : K.re[f.node]? = some x) (ho : x.op = 4) (hl : f.left = l + 1) : FrU K S.fs { f with kid := K.bh f.kid, left := l, fr := 0 } := by
  obtain ⟨⟨x', ks, e, hp, hto, hfr, hc⟩, hU⟩ := h
  have e0 := hp.head.1
  rw [hx] at e0
  obtain rfl := Option.some.inj e0
  obtain ⟨_, g, hr, hgn, _⟩ : x.op = 4 ∧ ∃ g, RestAt ks (f.node + 1) f.kid g ∧ g.num = f.left ∧ _ := by rcases hc with h | h | h; (· exact h); (· omega); (· omega)
  obtain ⟨y, js, r, rfl⟩ : ∃ y js r, g = F.nd y js r := by cases g with
    | nil => simp only [F.num] at hgn; omega
    | nd y a c => exact ⟨y, a, c, rfl⟩
  obtain ⟨e2, hpg⟩ := hr.part hp.head.2.1
  have hbh : K.bh f.kid = f.kid + 1 + js.size := by unfold SrE.bh; rw [fo1 hpg]; simp only [F.size]; omega
  refine ⟨⟨x, ks, e, hp, hto, Nat.zero_le _, .inl ⟨ho, r, ?_, ?_, .inl rfl⟩⟩, hU⟩
  · show RestAt ks (f.node + 1) (K.bh f.kid) r
    rw [hbh]; exact hr.next
  · show r.num = l
    simp only [F.num] at hgn; omega
theorem slot_row {f : Frm} {x : Nd} {l : Nat} (h : ShOk K f) (hx : K.re[f.node]? = some x) (ho : x.op = 4) (hl : f.left = l + 1) : Slot K { f with kid := K.bh f.kid, left := l, fr := 0 } f.kid := by
  obtain ⟨x', ks, e, hp, hto, hfr, hc⟩ := h
  have e0 := hp.head.1
  rw [hx] at e0
  obtain rfl := Option.some.inj e0
  obtain ⟨_, g, hr, hgn, _⟩ : x.op = 4 ∧ ∃ g, RestAt ks (f.node + 1) f.kid g ∧ g.num = f.left ∧ _ := by rcases hc with h | h | h; (· exact h); (· omega); (· omega)
  obtain ⟨y, js, r, rfl⟩ : ∃ y js r, g = F.nd y js r := by cases g with
    | nil => simp only [F.num] at hgn; omega
    | nd y a c => exact ⟨y, a, c, rfl⟩
  obtain ⟨e2, hpg⟩ := hr.part hp.head.2.1
  have hbh : K.bh f.kid = f.kid + 1 + js.size := by unfold SrE.bh; rw [fo1 hpg]; simp only [F.size]; omega
  exact ⟨x, ks, e, hp, .inl ⟨ho, y, js, r, hr, hbh, by show l = r.num; simp only [F.num] at hgn; omega, rfl⟩⟩
theorem frU_rnd {S : SS} {f : Frm} {x : Nd} (h : FrU K S.fs f) (hx : K.re[f.node]? = some x) (ho : x.op = 6) (hm : x.mx < 0 ∨ (f.kid : Int) < x.mx) : FrU K S.fs { f with kid := satK x f.kid } := by
  obtain ⟨⟨x', ks, e, hp, hto, hfr, hc⟩, hU⟩ := h
  have e0 := hp.head.1
  rw [hx] at e0
  obtain rfl := Option.some.inj e0
  obtain ⟨_, hk, hl, hf0⟩ : x.op = 6 ∧ f.kid ≤ satM x ∧ f.left = 0 ∧ f.fr = 0 := by rcases hc with h | h | h; (· omega); (· exact h); (· omega)
  refine ⟨⟨x, ks, e, hp, hto, hfr, .inr (.inl ⟨ho, ?_, hl, hf0⟩)⟩, hU⟩
  show satK x f.kid ≤ satM x
  unfold satK satM
  split <;> omega
theorem frOk_rnd {f : Frm} {x : Nd} (h1 : FrOk K f) (hx : K.re[f.node]? = some x) (ho : x.op = 6) (hm : x.mx < 0 ∨ (f.kid : Int) < x.mx) : FrOk K { f with kid := satK x f.kid } := by
  obtain ⟨x', ks, e, hp, hto, hc⟩ := h1
  have e0 := hp.head.1
  rw [hx] at e0
  obtain rfl := Option.some.inj e0
  have hr := op6_rng hp.wf.1 ho
  refine ⟨x, ks, e, hp, hto, .inr (.inl ⟨ho, ?_⟩)⟩
  show satK x f.kid ≤ 255
  unfold satK
  split <;> omega
theorem rnd_fc {f : Frm} {x : Nd} {at_ : Nat} (h1 : FrOk K f) (hx : K.re[f.node]? = some x) (ho : x.op = 6) : (ends at_ f.to).length * (foAt K.re (f.node + 1) 1).size + 0 ≤ K.cst f := by
  obtain ⟨_, _, _, _, hto, _⟩ := h1
  rw [SrE.cst, hx]
  simp only [ho]
  rw [if_neg (by decide), if_pos trivial, ends_length]
  exact Nat.mul_le_mul_right _ (by omega)
theorem row_take {S S' : SS} {f : Frm} {x : Nd} {at_ e u l k : Nat} {b : Bool} (hS : FrsOk K S) (h1' : FrOk K f ∧ FrU K S.fs f) (h2 : f.up ≤ S.fs.length) (hx : K.re[f.node]? = some x) (ho : x.op = 4) (hl : f.left = l + 1) (hu : u = k + 1) (hg : S.fs[k]? = some { f with kid := K.bh f.kid, left := l, fr := 0 }) (he : at_ ≤ e ∧ e ≤ f.to)
    (ih : FrsOk K S → LgQ K S (.take f.kid at_ e u) → Gd K S S' (bdQ K S.fs (.take f.kid at_ e u)) (fcQ K (.take f.kid at_ e u)) b) : Gd K S S' (K.fRk S.fs f at_) (foAt K.re f.kid 1).size b := by
  obtain ⟨h1, hU⟩ := h1'
  have hslot := slot_row hU.1 hx ho hl
  obtain ⟨x', ks, e1, hp, hto, hc⟩ := h1
  have e0 := hp.head.1
  rw [hx] at e0
  obtain rfl := Option.some.inj e0
  obtain ⟨_, g, e2, hpg, hgn⟩ : x.op = 4 ∧ ∃ g e2, Part K.re g f.kid e2 ∧ g.num = f.left := by rcases hc with h | h | h; (· exact h); (· omega); (· omega)
  obtain ⟨y, js, r, rfl⟩ : ∃ y js r, g = F.nd y js r := by cases g with
    | nil => simp only [F.num] at hgn; omega
    | nd y a c => exact ⟨y, a, c, rfl⟩
  have hbh : K.bh f.kid = f.kid + 1 + js.size := by unfold SrE.bh; rw [fo1 hpg]; simp only [F.size]; omega
  have hrn : r.num = l := by simp only [F.num] at hgn; omega
  have hkl := (List.getElem?_eq_some_iff.1 hg).1
  subst hu; refine (ih hS ⟨⟨y, js, _, hpg.one⟩, he.1, by omega, by omega, f.kid, .inr ⟨k, _, rfl, hg, hslot⟩, .refl⟩).mono ?_ (Nat.le_refl _)
  show potF _ (foAt K.re f.kid 1) + K.rk S.fs (k + 1) e ≤ K.fRk S.fs f at_
  rw [rk_frm hS hg, fRk4 (f := { f with kid := K.bh f.kid, left := l, fr := 0 }) (x := x) hx ho, fRk4 (f := f) hx ho]
  dsimp only
  have e2' : foAt K.re (K.bh f.kid) l = r := by rw [hbh, ← hrn]; exact foAt_eq hpg.head.2.2
  have e1' : potF K.w.length (foAt K.re f.kid f.left) = potF K.w.length (F.nd y js .nil) + potF K.w.length r := by rw [← hgn, foAt_eq hpg, potF, potF]; simp only [potF]; omega
  rw [e2', e1', fo1 hpg]; omega
theorem rnd_take {S S0 S' : SS} {f : Frm} {x : Nd} {at_ e u k : Nat} {b : Bool} (hS : FrsOk K S) (h1' : FrOk K f ∧ FrU K S.fs f) (h2 : f.up ≤ S.fs.length) (hx : K.re[f.node]? = some x) (ho : x.op = 6) (hm : x.mx < 0 ∨ (f.kid : Int) < x.mx) (hu : u = k + 1) (hg : S.fs[k]? = some { f with kid := satK x f.kid }) (he : at_ ≤ e ∧ e ≤ f.to) (hb : ¬ brk x f at_ e) (hfs : S0.fs = S.fs) (hF : S0.F = S.F) (hfu : S0.fuel = S.fuel) (hts : S0.ts = S.ts) (hsp : ∀ s ∈ S0.cs, SpOk K s)
    (ih : FrsOk K S0 → LgQ K S0 (.take (f.node + 1) at_ e u) → Gd K S0 S' (bdQ K S0.fs (.take (f.node + 1) at_ e u)) (fcQ K (.take (f.node + 1) at_ e u)) b) : Gd K S S' (K.fRk S.fs f at_) (foAt K.re (f.node + 1) 1).size b := by
  obtain ⟨⟨x', ks, e1, hp, hto, hc⟩, hU⟩ := h1'
  have e0 := hp.head.1
  rw [hx] at e0
  obtain rfl := Option.some.inj e0
  obtain ⟨y, js, rfl⟩ := one_kid hp.wf (.inl ho)
  have hkl := (List.getElem?_eq_some_iff.1 hg).1
  subst hu
  have hk1 : 1 ≤ satK x f.kid := by unfold satK; split <;> omega
  have g := ih (hS.cs hfs hts hsp) ⟨⟨y, js, _, hp.head.2.1⟩, he.1, by omega, by rw [hfs]; omega, f.node + 1, .inr ⟨k, { f with kid := satK x f.kid }, rfl, by rw [hfs]; exact hg, x, _, e1, hp, .inr ⟨.inl ⟨ho, hk1⟩, rfl⟩⟩, .refl⟩
  refine (g.pre (S0 := S) (k := 0) ⟨[], by rw [hfs]; simp⟩ hts hF (by omega)).mono ?_ (Nat.le_refl _)
  show potF _ (foAt K.re (f.node + 1) 1) + K.rk S0.fs (k + 1) e ≤ K.fRk S.fs f at_
  rw [hfs, rk_frm hS hg, fRk6 (f := { f with kid := satK x f.kid }) (x := x) hx ho, fRk6 (f := f) hx ho]
  have h3 := rl_step (g := { f with kid := satK x f.kid }) rfl hm he.1 he.2 hb
  have h4 := Nat.mul_le_mul_right (potF K.w.length (foAt K.re (f.node + 1) 1) + 2) h3
  rw [Nat.add_mul, Nat.one_mul] at h4
  show _ + (rlN x { f with kid := satK x f.kid } e * (potF K.w.length (foAt K.re (f.node + 1) 1) + 2) + 1 + K.rk S.fs f.up f.to) ≤ _
  omega
theorem Ev.gd {S S' : SS} {q : SQ} {b : Bool} (h : Ev K S q b S') : FrsOk K S → LgQ K S q → Gd K S S' (bdQ K S.fs q) (fcQ K q) b := by
  have tk : ∀ {S : SS}, 0 < S.fuel → S.fuel ≤ S.tick.fuel + 1 := fun {S} h => by show S.fuel ≤ S.fuel - 1 + 1; omega
  induction h with
  | @takeNo S at_ i j up x hx hf ho hg =>
    intro hS ⟨⟨y, ks, e, hp⟩, hij, hj, hu, hua⟩
    have h0 : FrsOk K S.tick := hS.cs rfl rfl hS.sp
    refine ((Gd.refl h0 _).pre (S0 := S) (k := 1) ⟨[], by simp [SS.tick]⟩ rfl rfl (tk hf)).mono (Nat.le_refl _) ?_
    show 0 + 1 ≤ (foAt K.re at_ 1).size
    rw [fo1 hp, F.size]; omega
  | @takeYes S S' at_ i j up x b hx hf ho hg h ih =>
    intro hS ⟨⟨y, ks, e, hp⟩, hij, hj, hu, hua⟩
    have := ih (hS.cs rfl rfl hS.sp) ⟨hu, hj⟩
    refine (this.pre (S0 := S) (k := 1) ⟨[], by simp [SS.tick]⟩ rfl rfl (tk hf)).mono ?_ ?_
    · show K.rk S.fs up j + 1 ≤ potF _ (foAt K.re at_ 1) + _
      rw [fo1 hp]; have := pot1 (n := K.w.length) (x := y) (ks := ks); omega
    · show 0 + 1 ≤ (foAt K.re at_ 1).size
      rw [fo1 hp, F.size]; omega
  | @takeAlt S S' at_ i j up x b hx hf ho h ih =>
    intro hS ⟨⟨y, ks, e, hp⟩, hij, hj, hu, hua⟩
    obtain rfl : x = y := by have := hp.head.1; rw [hx] at this; exact Option.some.inj this
    have hk := kids_num hp
    have hfo : foAt K.re (at_ + 1) x.kids.toNat = ks := by rw [← hk]; exact foAt_eq hp.head.2.1
    have := ih (hS.cs rfl rfl hS.sp) ⟨⟨ks, _, hp.head.2.1, hk, fun q y js r hr => by obtain ⟨s, h1, h2⟩ := hua; exact ⟨s, h1, h2.step hp ho hr⟩⟩, hij, hj, hu⟩
    refine (this.pre (S0 := S) (k := 1) ⟨[], by simp [SS.tick]⟩ rfl rfl (tk hf)).mono ?_ ?_
    · show potF _ (foAt K.re (at_ + 1) x.kids.toNat) + K.rk S.fs up j ≤ potF _ (foAt K.re at_ 1) + _
      rw [fo1 hp, hfo, pot_n6 (by omega)]; omega
    · show (foAt K.re (at_ + 1) x.kids.toNat).size + 1 ≤ (foAt K.re at_ 1).size
      rw [fo1 hp, hfo, F.size]; omega
  | @takeCat S S2 S' at_ i j up u x b hx hf ho hpu h ih =>
    intro hS ⟨⟨y, ks, e, hp⟩, hij, hj, hu, hua⟩
    obtain rfl : x = y := by have := hp.head.1; rw [hx] at this; exact Option.some.inj this
    have hk := kids_num hp
    have hfo : foAt K.re (at_ + 1) x.kids.toNat = ks := by rw [← hk]; exact foAt_eq hp.head.2.1
    have hfr : FrOk K ⟨up, at_, at_ + 1, x.kids.toNat, i, j⟩ := ⟨x, ks, e, hp, hj, .inl ⟨ho, ks, _, hp.head.2.1, hk⟩⟩
    have hfr2 : FrU K S.fs ⟨up, at_, at_ + 1, x.kids.toNat, i, j⟩ := ⟨⟨x, ks, e, hp, hj, by show i ≤ _; omega, .inl ⟨ho, ks, RestAt.refl, hk, .inr ⟨rfl, hk.symm⟩⟩⟩, hua⟩
    have h0 : FrsOk K S.tick := hS.cs rfl rfl hS.sp
    obtain ⟨hS2, hx2, hF2, hfu2, hts2, k, rfl, hg⟩ := push_gd hpu h0 hfr hfr2 hu
    have := ih hS2 ⟨by have := (List.getElem?_eq_some_iff.1 hg).1; omega, by omega⟩
    refine (this.pre (S0 := S) (k := 1) hx2 hts2 hF2 (by rw [hfu2]; exact tk hf)).mono ?_ ?_
    · show K.rk S2.fs (k + 1) i + 1 ≤ potF _ (foAt K.re at_ 1) + K.rk S.fs up j
      rw [rk_frm hS2 hg, fRk4 (x := x) hx ho]
      dsimp only
      rw [fo1 hp, hfo, pot_n6 (by omega), rkx h0 hS2 hx2 hu]
      show potF _ ks + 1 + K.rk S.fs up j + 1 ≤ _
      omega
    · show 0 + 1 ≤ (foAt K.re at_ 1).size
      rw [fo1 hp, F.size]; omega
  | @takeRep S S2 S' at_ i j up u x b hx hf ho hpu h ih =>
    intro hS ⟨⟨y, ks, e, hp⟩, hij, hj, hu, hua⟩
    obtain rfl : x = y := by have := hp.head.1; rw [hx] at this; exact Option.some.inj this
    obtain ⟨y, js, rfl⟩ := one_kid hp.wf (.inl ho)
    have hfr : FrOk K ⟨up, at_, 0, 0, 0, j⟩ := ⟨x, _, e, hp, hj, .inr (.inl ⟨ho, Nat.zero_le _⟩)⟩
    have hfr2 : FrU K S.fs ⟨up, at_, 0, 0, 0, j⟩ := ⟨⟨x, _, e, hp, hj, Nat.zero_le _, .inr (.inl ⟨ho, Nat.zero_le _, rfl, rfl⟩)⟩, hua⟩
    have h0 : FrsOk K S.tick := hS.cs rfl rfl hS.sp
    obtain ⟨hS2, hx2, hF2, hfu2, hts2, k, rfl, hg⟩ := push_gd hpu h0 hfr hfr2 hu
    have := ih hS2 ⟨by have := (List.getElem?_eq_some_iff.1 hg).1; omega, by omega⟩
    refine (this.pre (S0 := S) (k := 1) hx2 hts2 hF2 (by rw [hfu2]; exact tk hf)).mono ?_ ?_
    · show K.rk S2.fs (k + 1) i + 1 ≤ potF _ (foAt K.re at_ 1) + K.rk S.fs up j
      rw [rk_frm hS2 hg, fRk6 (x := x) hx ho]
      dsimp only
      rw [fo1 hp, fo1 hp.head.2.1, rkx h0 hS2 hx2 hu]
      have h1 := rl_start (x := x) (f := ⟨up, at_, 0, 0, 0, j⟩) (at_ := i) (n := K.w.length) hj
      have h2 := Nat.mul_le_mul_right (potF K.w.length (.nd y js .nil) + 2) h1
      have h3 : potF K.w.length (F.nd x (.nd y js .nil) .nil) = (K.w.length + 1) * (satM x + 1) * (potF K.w.length (.nd y js .nil) + 2) + 2 := by rw [potF, if_pos ho]; rfl
      rw [h3]
      show _ + 1 + K.rk S.fs up j + 1 ≤ _
      omega
    · show 0 + 1 ≤ (foAt K.re at_ 1).size
      rw [fo1 hp, F.size]; omega
  | @takeGrpY S S2 S' at_ i j up u x hx hf ho hpu h ih =>
    intro hS ⟨⟨y, ks, e, hp⟩, hij, hj, hu, hua⟩
    obtain rfl : x = y := by have := hp.head.1; rw [hx] at this; exact Option.some.inj this
    obtain ⟨y, js, rfl⟩ := one_kid hp.wf (.inr ho)
    have hfr : FrOk K ⟨up, at_, 0, 0, i, j⟩ := ⟨x, _, e, hp, hj, .inr (.inr ⟨ho, hij⟩)⟩
    have hfr2 : FrU K S.fs ⟨up, at_, 0, 0, i, j⟩ := ⟨⟨x, _, e, hp, hj, by show i ≤ _; omega, .inr (.inr ⟨ho, rfl, rfl⟩)⟩, hua⟩
    have h0 : FrsOk K { S.tick with cs := fgt (K.inn (at_ + 1) (K.bh at_)) S.cs } := hS.cs rfl rfl (fgt_ok (.inl rfl) _ _ hS.sp)
    obtain ⟨hS2, hx2, hF2, hfu2, hts2, k, rfl, hg⟩ := push_gd hpu h0 hfr hfr2 hu
    have := ih hS2 ⟨⟨y, js, _, hp.head.2.1⟩, hij, hj, by have := (List.getElem?_eq_some_iff.1 hg).1; omega, at_ + 1, .inr ⟨k, _, rfl, hg, x, _, e, hp, .inr ⟨.inr ho, rfl⟩⟩, .refl⟩
    refine (this.pre (S0 := S) (k := 1) hx2 hts2 hF2 (by rw [hfu2]; exact tk hf)).mono ?_ ?_
    · show potF _ (foAt K.re (at_ + 1) 1) + K.rk S2.fs (k + 1) j ≤ potF _ (foAt K.re at_ 1) + K.rk S.fs up j
      rw [rk_frm hS2 hg, fRk7 (x := x) hx (by omega) (by omega)]
      dsimp only
      rw [fo1 hp, fo1 hp.head.2.1, rkx h0 hS2 hx2 hu, pot_n6 (x := x) (by omega)]
      show potF _ (.nd y js .nil) + (1 + K.rk S.fs up j) ≤ _
      omega
    · show (foAt K.re (at_ + 1) 1).size + 1 ≤ (foAt K.re at_ 1).size
      rw [fo1 hp, fo1 hp.head.2.1]; simp only [F.size]; omega
  | @takeGrpN S S2 S' at_ i j up u x hx hf ho hpu h ih =>
    intro hS ⟨⟨y, ks, e, hp⟩, hij, hj, hu, hua⟩
    obtain rfl : x = y := by have := hp.head.1; rw [hx] at this; exact Option.some.inj this
    obtain ⟨y, js, rfl⟩ := one_kid hp.wf (.inr ho)
    have hfr : FrOk K ⟨up, at_, 0, 0, i, j⟩ := ⟨x, _, e, hp, hj, .inr (.inr ⟨ho, hij⟩)⟩
    have hfr2 : FrU K S.fs ⟨up, at_, 0, 0, i, j⟩ := ⟨⟨x, _, e, hp, hj, by show i ≤ _; omega, .inr (.inr ⟨ho, rfl, rfl⟩)⟩, hua⟩
    have h0 : FrsOk K { S.tick with cs := fgt (K.inn (at_ + 1) (K.bh at_)) S.cs } := hS.cs rfl rfl (fgt_ok (.inl rfl) _ _ hS.sp)
    obtain ⟨hS2, hx2, hF2, hfu2, hts2, k, rfl, hg⟩ := push_gd hpu h0 hfr hfr2 hu
    have := ih hS2 ⟨⟨y, js, _, hp.head.2.1⟩, hij, hj, by have := (List.getElem?_eq_some_iff.1 hg).1; omega, at_ + 1, .inr ⟨k, _, rfl, hg, x, _, e, hp, .inr ⟨.inr ho, rfl⟩⟩, .refl⟩
    refine ((this.pre (S0 := S) (k := 1) hx2 hts2 hF2 (by rw [hfu2]; exact tk hf)).mono ?_ ?_).post (rst_ok (.inl rfl) _ _ _ (emW_ok (.inl rfl) _ _ hS.sp) this.1.sp) rfl rfl rfl rfl
    · show potF _ (foAt K.re (at_ + 1) 1) + K.rk S2.fs (k + 1) j ≤ potF _ (foAt K.re at_ 1) + K.rk S.fs up j
      rw [rk_frm hS2 hg, fRk7 (x := x) hx (by omega) (by omega)]
      dsimp only
      rw [fo1 hp, fo1 hp.head.2.1, rkx h0 hS2 hx2 hu, pot_n6 (x := x) (by omega)]
      show potF _ (.nd y js .nil) + (1 + K.rk S.fs up j) ≤ _
      omega
    · show (foAt K.re (at_ + 1) 1).size + 1 ≤ (foAt K.re at_ 1).size
      rw [fo1 hp, fo1 hp.head.2.1]; simp only [F.size]; omega
  | altNil => intro hS _; exact (Gd.refl hS _).mono (Nat.le_refl _) (Nat.zero_le _)
  | @altYes S S' kid l i j up h ih =>
    intro hS ⟨⟨g, e, hp, hn, hga⟩, hij, hj, hu⟩
    obtain ⟨y, js, r, rfl⟩ : ∃ y js r, g = F.nd y js r := by cases g with
      | nil => simp only [F.num] at hn; omega
      | nd y a c => exact ⟨y, a, c, rfl⟩
    have := ih hS ⟨⟨y, js, _, hp.one⟩, hij, hj, hu, hga _ _ _ _ RestAt.refl⟩
    refine this.mono ?_ ?_
    · show potF _ (foAt K.re kid 1) + _ ≤ potF _ (foAt K.re kid (l + 1)) + _
      rw [fo1 hp, ← hn, foAt_eq hp, potF, potF]; simp only [potF]; omega
    · show (foAt K.re kid 1).size ≤ (foAt K.re kid (l + 1)).size
      rw [fo1 hp, ← hn, foAt_eq hp]; simp only [F.size]; omega
  | @altNo S S1 S' kid l i j up b h h' ih ih' =>
    intro hS ⟨⟨g, e, hp, hn, hga⟩, hij, hj, hu⟩
    obtain ⟨y, js, r, rfl⟩ : ∃ y js r, g = F.nd y js r := by cases g with
      | nil => simp only [F.num] at hn; omega
      | nd y a c => exact ⟨y, a, c, rfl⟩
    have hbh : K.bh kid = kid + 1 + js.size := by unfold SrE.bh; rw [fo1 hp]; simp only [F.size]; omega
    have hrn : r.num = l := by simp only [F.num] at hn; omega
    have g1 := ih hS ⟨⟨y, js, _, hp.one⟩, hij, hj, hu, hga _ _ _ _ RestAt.refl⟩
    obtain ⟨a, ha⟩ := g1.2.1
    have g2 := ih' g1.1 ⟨⟨r, _, by rw [hbh]; exact hp.head.2.2, hrn, fun q y' js' r' hr => by rw [ha]; exact (hga q y' js' r' (.inr (by rw [hbh] at hr; exact hr))).ext⟩, hij, hj, by rw [ha, List.length_append]; omega⟩
    have e1 : potF K.w.length (foAt K.re kid (l + 1)) = potF K.w.length (F.nd y js .nil) + potF K.w.length r := by rw [← hn, foAt_eq hp, potF, potF]; simp only [potF]; omega
    have e2 : foAt K.re (K.bh kid) l = r := by rw [hbh, ← hrn]; exact foAt_eq hp.head.2.2
    refine ((g1.mono (bd' := bdQ K S.fs (.alt kid (l + 1) i j up)) ?_ (Nat.le_refl _)).trans (g2.mono ?_ (Nat.le_refl _))).mono (Nat.le_refl _) ?_
    · show potF _ (foAt K.re kid 1) + _ ≤ potF _ (foAt K.re kid (l + 1)) + _
      rw [e1, fo1 hp]; omega
    · show potF _ (foAt K.re (K.bh kid) l) + K.rk S1.fs up j ≤ potF _ (foAt K.re kid (l + 1)) + K.rk S.fs up j
      rw [e1, e2, rkx hS g1.1 g1.2.1 hu]; omega
    · show (foAt K.re kid 1).size + (foAt K.re (K.bh kid) l).size ≤ (foAt K.re kid (l + 1)).size
      rw [e2, fo1 hp, ← hn, foAt_eq hp]; simp only [F.size]; omega
  | nextZero => intro hS _; exact Gd.reflT hS _ _
  | @nextMemo S k at_ h =>
    intro hS _
    obtain ⟨⟨e, he, _⟩, hnd, _⟩ := stG_spec (chunks (K.proj S.cs)) S.ts 0 hS.nd
    have h2 : FrsOk K (K.code S).2 := ⟨hS.fr, hS.ch, hS.sp, hnd, hS.up, hS.fn⟩
    exact (Gd.refl h2 _).preT (S0 := S) (k := 0) ⟨[], by simp [SrE.code]⟩ ⟨e, he⟩ rfl (Nat.le_refl _)
  | @nextGo S S2 k at_ f b hn hf h ih =>
    intro hS ⟨hu, hat⟩
    have hup := hS.ch k f hf
    have hk := (List.getElem?_eq_some_iff.1 hf).1
    obtain ⟨⟨e, he, _⟩, hnd, hdec⟩ := stG_spec (chunks (K.proj S.cs)) S.ts 0 hS.nd
    have hfm := List.mem_of_getElem? hf
    have g := ih (⟨hS.fr, hS.ch, hS.sp, hnd, hS.up, hS.fn⟩ : FrsOk K { (K.code S).2 with wk := S.wk + 1 }) ⟨⟨hS.fr f hfm, hS.up f hfm⟩, by show f.up ≤ S.fs.length; omega, hat⟩
    obtain ⟨z, hz⟩ := g.2.2.1
    have g' : Gd K S S2 (K.fRk S.fs f at_) (K.cst f) b := (g.preT (S0 := S) (k := 0) ⟨[], by simp [SrE.code]⟩ ⟨e, he⟩ rfl (Nat.le_refl _))
    refine g'.point hS hf hn ?_ hat ⟨S.cs, hS.sp, by rw [hz]; exact hdec.mono⟩
    show K.fRk S.fs f at_ < K.rk S.fs (k + 1) at_ + 1
    rw [rk_frm hS hf]; omega
  | bodyCat hx ho h ih => intro hS ⟨h1, h2, h3⟩; exact ih hS ⟨h1, h2, h3, _, hx, ho⟩
  | bodyRep hx ho h ih => intro hS ⟨h1, h2, h3⟩; exact ih hS ⟨h1, h2, h3, _, hx, ho⟩
  | @bodyGrpY S S' f at_ x hx h4 h6 h ih =>
    intro hS ⟨h1, h2, h3⟩
    have g := ih (hS.cs rfl rfl (set_ok hS h1.1 hx h4 h6)) ⟨h2, h3⟩
    refine (g.pre (S0 := S) (k := 0) ⟨[], by simp⟩ rfl rfl (Nat.le_refl _)).mono ?_ (Nat.zero_le _)
    show K.rk S.fs f.up at_ + 1 ≤ K.fRk S.fs f at_
    rw [fRk7 hx h4 h6]; omega
  | @bodyGrpN S S' f at_ x hx h4 h6 h ih =>
    intro hS ⟨h1, h2, h3⟩
    have g := ih (hS.cs rfl rfl (set_ok hS h1.1 hx h4 h6)) ⟨h2, h3⟩
    refine ((g.pre (S0 := S) (k := 0) ⟨[], by simp⟩ rfl rfl (Nat.le_refl _)).mono ?_ (Nat.zero_le _)).post (fun s hs => (List.mem_or_eq_of_mem_set hs).elim (g.1.sp s) fun e => by rw [e]; exact getD_ok hS.sp) rfl rfl rfl rfl
    show K.rk S.fs f.up at_ + 1 ≤ K.fRk S.fs f at_
    rw [fRk7 hx h4 h6]; omega
  | rowZN hl he => intro hS _; exact (Gd.refl hS _).mono (Nat.le_refl _) (Nat.zero_le _)
  | @rowZ S S' f at_ b hl he h ih =>
    intro hS ⟨h1, h2, h3, x, hx, ho⟩
    have g := ih hS ⟨h2, h3⟩
    refine g.mono ?_ (Nat.zero_le _)
    show K.rk S.fs f.up at_ + 1 ≤ K.fRk S.fs f at_
    rw [fRk4 hx ho, he]; omega
  | @rowS S S1 S' f at_ u l b hl hpu h ih =>
    intro hS ⟨h1, h2, h3, x, hx, ho⟩
    have hfu := frU_row h1.2 hx ho hl
    have h1c := h1
    obtain ⟨⟨x', ks, e, hp, hto, hc⟩, hU⟩ := h1
    have e0 := hp.head.1
    rw [hx] at e0
    obtain rfl := Option.some.inj e0
    obtain ⟨_, g, e2, hpg, hgn⟩ : x.op = 4 ∧ ∃ g e2, Part K.re g f.kid e2 ∧ g.num = f.left := by rcases hc with h | h | h; (· exact h); (· omega); (· omega)
    obtain ⟨y, js, r, rfl⟩ : ∃ y js r, g = F.nd y js r := by cases g with
      | nil => simp only [F.num] at hgn; omega
      | nd y a c => exact ⟨y, a, c, rfl⟩
    have hbh : K.bh f.kid = f.kid + 1 + js.size := by unfold SrE.bh; rw [fo1 hpg]; simp only [F.size]; omega
    have hfr : FrOk K { f with kid := K.bh f.kid, left := l, fr := 0 } := ⟨x, ks, e, hp, hto, .inl ⟨ho, r, _, by show Part K.re r (K.bh f.kid) e2; rw [hbh]; exact hpg.head.2.2, by show r.num = l; simp only [F.num] at hgn; omega⟩⟩
    obtain ⟨hS2, hx2, hF2, hfu2, hts2, k, rfl, hg⟩ := push_gd hpu hS hfr hfu h2
    obtain ⟨a, ha⟩ := hx2
    have hu2 : f.up ≤ S1.fs.length := by rw [ha, List.length_append]; omega
    have := ih hS2 ⟨⟨h1c.1, by rw [ha]; exact h1c.2.ext⟩, hu2, h3, ⟨x, hx, ho⟩, l, k, hl, rfl, hg, fun e he => mem_ends.1 he⟩
    refine (this.pre (k := 0) ⟨a, ha⟩ hts2 hF2 (by omega)).mono ?_ ?_
    · show K.fRk S1.fs f at_ ≤ K.fRk S.fs f at_
      rw [fRkx hS hS2 ⟨a, ha⟩ h2]; exact Nat.le_refl _
    · show (ends at_ f.to).length * (foAt K.re f.kid 1).size + 0 ≤ K.cst f
      rw [SrE.cst, hx]
      simp only [ho, if_true]
      rw [if_neg (by omega), ends_length]
      exact Nat.mul_le_mul_right _ (by omega)
  | rowLNil => intro hS _; exact (Gd.refl hS _).mono (Nat.le_refl _) (Nat.zero_le _)
  | @rowLYes S S' f u at_ e es h ih =>
    intro hS ⟨h1, h2, h3, ⟨x, hx, ho⟩, l, k, hl, hu, hg, hes⟩
    exact (row_take hS h1 h2 hx ho hl hu hg (hes e List.mem_cons_self) ih).mono (Nat.le_refl _) (Nat.le_mul_of_pos_left _ (by simp))
  | @rowLLast S S' f u at_ e es hl1 h ih =>
    intro hS ⟨h1, h2, h3, ⟨x, hx, ho⟩, l, k, hl, hu, hg, hes⟩
    exact (row_take hS h1 h2 hx ho hl hu hg (hes e List.mem_cons_self) ih).mono (Nat.le_refl _) (Nat.le_mul_of_pos_left _ (by simp))
  | @rowLNo S S1 S' f u at_ e es b hl1 h h' ih ih' =>
    intro hS ⟨h1, h2, h3, ⟨x, hx, ho⟩, l, k, hl, hu, hg, hes⟩
    have g1 := row_take hS h1 h2 hx ho hl hu hg (hes e List.mem_cons_self) ih
    obtain ⟨a, ha⟩ := g1.2.1
    have g2 := ih' g1.1 ⟨⟨h1.1, by rw [ha]; exact h1.2.ext⟩, by rw [ha, List.length_append]; omega, h3, ⟨x, hx, ho⟩, l, k, hl, hu, by rw [ha, List.getElem?_append_left (List.getElem?_eq_some_iff.1 hg).1]; exact hg, fun e he => hes e (List.mem_cons_of_mem _ he)⟩
    refine (g1.trans (g2.mono ?_ (Nat.le_refl _))).mono (Nat.le_refl _) ?_
    · show K.fRk S1.fs f at_ ≤ K.fRk S.fs f at_
      rw [fRkx hS g1.1 g1.2.1 h2]; exact Nat.le_refl _
    · show (foAt K.re f.kid 1).size + es.length * (foAt K.re f.kid 1).size ≤ (e :: es).length * (foAt K.re f.kid 1).size
      rw [List.length_cons, Nat.succ_mul]; omega
  | @rndYes S S1 S' f at_ u x hx hm hpu h ih =>
    intro hS ⟨h1, h2, h3, x', hx', ho⟩
    obtain rfl : x = x' := by rw [hx] at hx'; exact Option.some.inj hx'
    obtain ⟨hS2, ⟨a, ha⟩, hF2, hfu2, hts2, k, rfl, hg⟩ := push_gd hpu hS (frOk_rnd h1.1 hx ho hm) (frU_rnd h1.2 hx ho hm) h2
    have := ih hS2 ⟨⟨h1.1, by rw [ha]; exact h1.2.ext⟩, by rw [ha, List.length_append]; omega, h3, x, k, hx, ho, hm, rfl, hg, fun e he => mem_ends.1 he⟩
    refine (this.pre (k := 0) ⟨a, ha⟩ hts2 hF2 (by omega)).mono ?_ (rnd_fc h1.1 hx ho)
    show K.fRk S1.fs f at_ ≤ K.fRk S.fs f at_
    rw [fRkx hS hS2 ⟨a, ha⟩ h2]; exact Nat.le_refl _
  | @rndEnd S S1 S2 S' f at_ u x b hx hm hpu h he h' ih ih' =>
    intro hS ⟨h1, h2, h3, x', hx', ho⟩
    obtain rfl : x = x' := by rw [hx] at hx'; exact Option.some.inj hx'
    obtain ⟨hS2, ⟨a, ha⟩, hF2, hfu2, hts2, k, rfl, hg⟩ := push_gd hpu hS (frOk_rnd h1.1 hx ho hm) (frU_rnd h1.2 hx ho hm) h2
    have g1 := ih hS2 ⟨⟨h1.1, by rw [ha]; exact h1.2.ext⟩, by rw [ha, List.length_append]; omega, h3, x, k, hx, ho, hm, rfl, hg, fun e he => mem_ends.1 he⟩
    have g1' : Gd K S S2 (K.fRk S.fs f at_) (K.cst f) false := (g1.pre (k := 0) ⟨a, ha⟩ hts2 hF2 (by omega)).mono (by show K.fRk S1.fs f at_ ≤ K.fRk S.fs f at_; rw [fRkx hS hS2 ⟨a, ha⟩ h2]; exact Nat.le_refl _) (rnd_fc h1.1 hx ho)
    obtain ⟨a', ha'⟩ := g1'.2.1
    have g2 := ih' g1'.1 ⟨by rw [ha', List.length_append]; omega, h3⟩
    refine (g1'.trans (g2.mono ?_ (Nat.le_refl _)))
    show K.rk S2.fs f.up at_ + 1 ≤ K.fRk S.fs f at_
    rw [rkx hS g1'.1 g1'.2.1 h2, fRk6 hx ho, he.1]; omega
  | @rndNo S S1 S2 f at_ u x hx hm hpu h he ih =>
    intro hS ⟨h1, h2, h3, x', hx', ho⟩
    obtain rfl : x = x' := by rw [hx] at hx'; exact Option.some.inj hx'
    obtain ⟨hS2, ⟨a, ha⟩, hF2, hfu2, hts2, k, rfl, hg⟩ := push_gd hpu hS (frOk_rnd h1.1 hx ho hm) (frU_rnd h1.2 hx ho hm) h2
    have g1 := ih hS2 ⟨⟨h1.1, by rw [ha]; exact h1.2.ext⟩, by rw [ha, List.length_append]; omega, h3, x, k, hx, ho, hm, rfl, hg, fun e he => mem_ends.1 he⟩
    exact (g1.pre (k := 0) ⟨a, ha⟩ hts2 hF2 (by omega)).mono (by show K.fRk S1.fs f at_ ≤ K.fRk S.fs f at_; rw [fRkx hS hS2 ⟨a, ha⟩ h2]; exact Nat.le_refl _) (rnd_fc h1.1 hx ho)
  | @rnd0End S S' f at_ x b hx hm he h' ih =>
    intro hS ⟨h1, h2, h3, x', hx', ho⟩
    obtain rfl : x = x' := by rw [hx] at hx'; exact Option.some.inj hx'
    have g := ih hS ⟨h2, h3⟩
    refine g.mono ?_ (Nat.zero_le _)
    show K.rk S.fs f.up at_ + 1 ≤ K.fRk S.fs f at_
    rw [fRk6 hx ho, he.1]; omega
  | rnd0No hx hm he => intro hS _; exact (Gd.refl hS _).mono (Nat.le_refl _) (Nat.zero_le _)
  | rndLNil => intro hS _; exact (Gd.refl hS _).mono (Nat.le_refl _) (Nat.zero_le _)
  | rndLBrk hx hb => intro hS _; exact (Gd.refl hS _).mono (Nat.le_refl _) (Nat.zero_le _)
  | @rndLYes S S' f u at_ e es x hx hb h ih =>
    intro hS ⟨h1, h2, h3, x', k, hx', ho, hm, hu, hg, hes⟩
    obtain rfl : x = x' := by rw [hx] at hx'; exact Option.some.inj hx'
    exact (rnd_take (S0 := { S with cs := fgt (K.inn (f.node + 1) (K.bh f.node)) S.cs }) hS h1 h2 hx ho hm hu hg (hes e List.mem_cons_self) hb rfl rfl rfl rfl (fgt_ok (.inl rfl) _ _ hS.sp) ih).mono (Nat.le_refl _) (Nat.le_mul_of_pos_left _ (by simp))
  | @rndLNo S S1 S' f u at_ e es x b hx hb h h' ih ih' =>
    intro hS ⟨h1, h2, h3, x', k, hx', ho, hm, hu, hg, hes⟩
    obtain rfl : x = x' := by rw [hx] at hx'; exact Option.some.inj hx'
    have g1 := rnd_take (S0 := { S with cs := fgt (K.inn (f.node + 1) (K.bh f.node)) S.cs }) hS h1 h2 hx ho hm hu hg (hes e List.mem_cons_self) hb rfl rfl rfl rfl (fgt_ok (.inl rfl) _ _ hS.sp) ih
    have g1' : Gd K S { S1 with cs := rst (K.inn (f.node + 1) (K.bh f.node)) (emW (K.inn (f.node + 1) (K.bh f.node)) S.cs) S1.cs } (K.fRk S.fs f at_) (foAt K.re (f.node + 1) 1).size false := g1.post (rst_ok (.inl rfl) _ _ _ (emW_ok (.inl rfl) _ _ hS.sp) g1.1.sp) rfl rfl rfl rfl
    obtain ⟨a, ha⟩ := g1'.2.1
    have g2 := ih' g1'.1 ⟨⟨h1.1, by rw [ha]; exact h1.2.ext⟩, by rw [ha, List.length_append]; omega, h3, x, k, hx, ho, hm, hu, by rw [ha, List.getElem?_append_left (List.getElem?_eq_some_iff.1 hg).1]; exact hg, fun e he => hes e (List.mem_cons_of_mem _ he)⟩
    refine (g1'.trans (g2.mono ?_ (Nat.le_refl _))).mono (Nat.le_refl _) ?_
    · show K.fRk S1.fs f at_ ≤ K.fRk S.fs f at_
      exact Nat.le_of_eq (fRkx hS g1.1 g1.2.1 h2)
    · show (foAt K.re (f.node + 1) 1).size + es.length * (foAt K.re (f.node + 1) 1).size ≤ (e :: es).length * (foAt K.re (f.node + 1) 1).size
      rw [List.length_cons, Nat.succ_mul]; omega
end
end Go.HL.Kl.Mc
namespace Go.HL.Kl.Mc
open Go Go.HL Go.HL.Kl AskE
def idxF (fs : List Frm) (g : Frm) : Nat := match fnd g fs with
  | some k => k + 1
  | none => 0
def enF (n : Nat) (fs : List Frm) : F → Bool → Nat → Nat → Nat → List Frm
  | .nil, _, _, _, _ => []
  | .nd x ks r, md, p, u, a =>
    let one : Nat → List Frm := fun u =>
      if x.op = 5 then enF n fs ks false (p + 1) u 0
      else if x.op = 4 then ((List.range (n + 1)).flatMap fun fr => (List.range (n + 1)).map fun to => (⟨u, p, p + 1, ks.num, fr, to⟩ : Frm)) ++ enF n fs ks true (p + 1) u p
      else if x.op = 6 then (List.range (n + 1)).flatMap fun to => (List.range (satM x + 1)).flatMap fun k => (⟨u, p, k, 0, 0, to⟩ : Frm) :: (if k = 0 then [] else enF n fs ks false (p + 1) (idxF fs ⟨u, p, k, 0, 0, to⟩) 0)
      else if x.op = 7 then (List.range (n + 1)).flatMap fun fr => (List.range (n + 1)).flatMap fun to => (⟨u, p, 0, 0, fr, to⟩ : Frm) :: enF n fs ks false (p + 1) (idxF fs ⟨u, p, 0, 0, fr, to⟩) 0
      else []
    if md = true then ((List.range (n + 1)).flatMap fun to => (⟨u, a, p + 1 + ks.size, r.num, 0, to⟩ : Frm) :: one (idxF fs ⟨u, a, p + 1 + ks.size, r.num, 0, to⟩)) ++ enF n fs r true (p + 1 + ks.size) u a
    else one u ++ enF n fs r false (p + 1 + ks.size) u a
def en1 (n : Nat) (fs : List Frm) (x : Nd) (ks : F) (p u : Nat) : List Frm :=
  if x.op = 5 then enF n fs ks false (p + 1) u 0
  else if x.op = 4 then ((List.range (n + 1)).flatMap fun fr => (List.range (n + 1)).map fun to => (⟨u, p, p + 1, ks.num, fr, to⟩ : Frm)) ++ enF n fs ks true (p + 1) u p
  else if x.op = 6 then (List.range (n + 1)).flatMap fun to => (List.range (satM x + 1)).flatMap fun k => (⟨u, p, k, 0, 0, to⟩ : Frm) :: (if k = 0 then [] else enF n fs ks false (p + 1) (idxF fs ⟨u, p, k, 0, 0, to⟩) 0)
  else if x.op = 7 then (List.range (n + 1)).flatMap fun fr => (List.range (n + 1)).flatMap fun to => (⟨u, p, 0, 0, fr, to⟩ : Frm) :: enF n fs ks false (p + 1) (idxF fs ⟨u, p, 0, 0, fr, to⟩) 0
  else []
section
variable {n : Nat} {fs : List Frm} {x y : Nd} {ks js r : F} {p u a s : Nat}
theorem enF_cat : enF n fs (.nd x ks r) true p u a = ((List.range (n + 1)).flatMap fun to => (⟨u, a, p + 1 + ks.size, r.num, 0, to⟩ : Frm) :: en1 n fs x ks p (idxF fs ⟨u, a, p + 1 + ks.size, r.num, 0, to⟩)) ++ enF n fs r true (p + 1 + ks.size) u a := by
  rw [enF]; rfl
theorem enF_alt : enF n fs (.nd x ks r) false p u a = en1 n fs x ks p u ++ enF n fs r false (p + 1 + ks.size) u a := by
  rw [enF]; rfl
theorem enF_one : enF n fs (.nd x ks .nil) false p u a = en1 n fs x ks p u := by rw [enF_alt, enF, List.append_nil]
theorem idx_of (hn : fs.Nodup) {k : Nat} {g : Frm} (h : fs[k]? = some g) : idxF fs g = k + 1 := by
  unfold idxF
  cases hf : fnd g fs with
  | none => exact absurd (List.mem_of_getElem? h) (fnd_none hf)
  | some q =>
    have h2 := fnd_some hf
    have := (List.getElem?_inj (List.getElem?_eq_some_iff.1 h).1 hn).1 (h.trans h2.symm)
    show q + 1 = k + 1
    omega
theorem RestAt.ge : ∀ {f g : F} {p q : Nat}, RestAt f p q g → p ≤ q ∧ g.num ≤ f.num
  | .nil, _, _, _, h => by obtain ⟨rfl, rfl⟩ := h; exact ⟨Nat.le_refl _, Nat.le_refl _⟩
  | .nd y js r, _, p, q, h => by
    rcases h with ⟨rfl, rfl⟩ | h
    · exact ⟨Nat.le_refl _, Nat.le_refl _⟩
    · obtain ⟨h1, h2⟩ := h.ge
      exact ⟨by omega, by simp only [F.num]; omega⟩
theorem RestAt.uniq : ∀ {f g g' : F} {p q q' : Nat}, RestAt f p q g → RestAt f p q' g' → g.num = g'.num → q = q' ∧ g = g'
  | .nil, _, _, _, _, _, h, h', _ => by obtain ⟨rfl, rfl⟩ := h; obtain ⟨rfl, rfl⟩ := h'; exact ⟨rfl, rfl⟩
  | .nd y js r, g, g', p, q, q', h, h', hn => by
    rcases h with ⟨rfl, rfl⟩ | h
    · rcases h' with ⟨rfl, rfl⟩ | h'
      · exact ⟨rfl, rfl⟩
      · have := h'.ge.2; simp only [F.num] at hn; omega
    · rcases h' with ⟨rfl, rfl⟩ | h'
      · have := h.ge.2; simp only [F.num] at hn; omega
      · exact h.uniq h' hn
theorem cat_mem {to : Nat} (ht : to ≤ n) : ∀ {ks : F} {p q : Nat} {g : F}, RestAt ks p q g → (q = p ∧ g = ks) ∨ (⟨u, a, q, g.num, 0, to⟩ : Frm) ∈ enF n fs ks true p u a
  | .nil, _, _, _, h => .inl ⟨h.1.symm, h.2⟩
  | .nd y js r, p, q, g, h => by
    rcases h with ⟨h1, h2⟩ | h
    · exact .inl ⟨h1.symm, h2⟩
    · right
      rw [enF_cat]
      rcases cat_mem ht h with ⟨rfl, rfl⟩ | h
      · exact List.mem_append_left _ (List.mem_flatMap.2 ⟨to, List.mem_range.2 (by omega), List.mem_cons_self⟩)
      · exact List.mem_append_right _ h
theorem own_mem {K : SrE} {f : Frm} {e : Nat} (h : ShOk K f) (hp : Part K.re (.nd x ks .nil) f.node e) : f ∈ en1 K.w.length fs x ks f.node f.up := by
  obtain ⟨x', ks', e', hp', hto, hfr, hc⟩ := h
  have h1 := hp.head.1
  rw [hp'.head.1] at h1
  obtain rfl := Option.some.inj h1
  obtain rfl := hp.uniq hp'
  obtain ⟨up, node, kid, left, fr, to⟩ := f
  dsimp only at *
  unfold en1
  rcases hc with ⟨ho, g, hr, hgn, hc⟩ | ⟨ho, hk, rfl, rfl⟩ | ⟨ho, rfl, rfl⟩
  · rw [if_neg (by omega), if_pos ho]
    subst hgn
    have first : ∀ {fr : Nat}, fr ≤ K.w.length → (⟨up, node, node + 1, ks.num, fr, to⟩ : Frm) ∈ ((List.range (K.w.length + 1)).flatMap fun fr => (List.range (K.w.length + 1)).map fun to => (⟨up, node, node + 1, ks.num, fr, to⟩ : Frm)) := fun {fr} hfr =>
      List.mem_flatMap.2 ⟨fr, List.mem_range.2 (by omega), List.mem_map.2 ⟨to, List.mem_range.2 (by omega), rfl⟩⟩
    rcases hc with rfl | ⟨rfl, hl⟩
    · rcases cat_mem (u := up) (a := node) (fs := fs) hto hr with ⟨rfl, rfl⟩ | h
      · exact List.mem_append_left _ (first (Nat.zero_le _))
      · exact List.mem_append_right _ h
    · rw [hl]; exact List.mem_append_left _ (first hfr)
  · rw [if_neg (by omega), if_neg (by omega), if_pos ho]
    exact List.mem_flatMap.2 ⟨to, List.mem_range.2 (by omega), List.mem_flatMap.2 ⟨kid, List.mem_range.2 (by omega), List.mem_cons_self⟩⟩
  · rw [if_neg (by omega), if_neg (by omega), if_neg (by omega), if_pos ho]
    exact List.mem_flatMap.2 ⟨fr, List.mem_range.2 (by omega), List.mem_flatMap.2 ⟨to, List.mem_range.2 (by omega), List.mem_cons_self⟩⟩
theorem rest_sub : ∀ {f : F} {p q : Nat} {y : Nd} {js r : F}, RestAt f p q (.nd y js r) → ∀ h ∈ en1 n fs y js q u, h ∈ enF n fs f false p u a
  | .nil, _, _, _, _, _, hr, _, _ => by cases hr.2
  | .nd z ls t, p, q, y, js, r, hr, h, hh => by
    rw [enF_alt]
    rcases hr with ⟨rfl, hr⟩ | hr
    · cases hr; exact List.mem_append_left _ hh
    · exact List.mem_append_right _ (rest_sub hr h hh)
theorem alt_sub {re : List Nd} (hA : AltR re s a) : ∀ {x y : Nd} {ks js : F} {e e' : Nat}, Part re (.nd x ks .nil) s e → Part re (.nd y js .nil) a e' → ∀ h ∈ en1 n fs y js a u, h ∈ en1 n fs x ks s u := by
  induction hA with
  | refl =>
    intro x y ks js e e' hp hp' h hh
    have h1 := hp.head.1
    rw [hp'.head.1] at h1
    obtain rfl := Option.some.inj h1
    obtain rfl := hp.uniq hp'
    exact hh
  | @step b q e1 z y1 ls js1 r1 hA hpz ho hr ih =>
    intro x y ks js e e' hp hp' h hh
    refine ih hp hpz h ?_
    obtain ⟨e2, hp2⟩ := hr.part hpz.head.2.1
    have h1 := hp2.head.1
    rw [hp'.head.1] at h1
    obtain rfl := Option.some.inj h1
    have h3 := hp2.one.uniq hp'
    subst h3
    unfold en1
    rw [if_pos ho]
    exact rest_sub hr h hh
end
end Go.HL.Kl.Mc
