/- Back-references: how many takes a whole search has: no more than the document's bound. Conditions: none. -/
import Derived.Test.YtloepfcndglmmaaDoorBF3Z
import Derived.Test.YtloepfcndglmmaaDoorHM2Z
namespace Go.HL.Kl.Mc
open Go Go.HL Go.HL.Kl AskE
theorem nodupS {α : Type} [DecidableEq α] {g : α → Nat} : ∀ {l L : List α}, l.Nodup → (∀ a ∈ l, a ∈ L) → (l.map g).sum ≤ (L.map g).sum
  | [], _, _, _ => Nat.zero_le _
  | a :: l, L, hn, hs => by
    have ha := hs a List.mem_cons_self
    have hp := List.perm_cons_erase ha
    have e : (L.map g).sum = ((a :: L.erase a).map g).sum := (hp.map g).sum_nat
    rw [e, List.map_cons, List.map_cons, List.sum_cons, List.sum_cons]
    have hn' := List.nodup_cons.1 hn
    refine Nat.add_le_add_left (nodupS hn'.2 fun b hb => ?_) _
    have hb2 := hs b (List.mem_cons_of_mem _ hb)
    have hne : b ≠ a := fun e => hn'.1 (e ▸ hb)
    exact (List.mem_erase_of_ne hne).2 hb2
theorem nodup_map_on {α β : Type} {f : α → β} : ∀ {l : List α}, l.Nodup → (∀ a ∈ l, ∀ b ∈ l, f a = f b → a = b) → (l.map f).Nodup
  | [], _, _ => List.nodup_nil
  | a :: l, hn, hi => by
    have hn' := List.nodup_cons.1 hn
    rw [List.map_cons]
    refine List.nodup_cons.2 ⟨fun hm => ?_, nodup_map_on hn'.2 fun x hx y hy => hi x (List.mem_cons_of_mem _ hx) y (List.mem_cons_of_mem _ hy)⟩
    obtain ⟨b, hb, he⟩ := List.mem_map.1 hm
    have := hi b (List.mem_cons_of_mem _ hb) a List.mem_cons_self he
    exact hn'.1 (this ▸ hb)
def spL (n : Nat) : List Sp := noS :: (List.range (n + 1)).flatMap fun fr => (List.range (n + 1)).map fun to => ⟨(fr : Nat), (to : Nat)⟩
def vecs (n : Nat) : Nat → List (List Sp)
  | 0 => [[]]
  | g + 1 => (spL n).flatMap fun s => (vecs n g).map fun v => s :: v
theorem flat_len_le {α β : Type} {f : α → List β} {B : Nat} : ∀ {l : List α}, (∀ a ∈ l, (f a).length ≤ B) → (l.flatMap f).length ≤ l.length * B
  | [], _ => by simp
  | a :: l, h => by
    rw [List.flatMap_cons, List.length_append, List.length_cons, Nat.succ_mul]
    have h1 := h a List.mem_cons_self
    have h2 := flat_len_le (l := l) fun b hb => h b (List.mem_cons_of_mem _ hb)
    omega
theorem spL_len {n : Nat} : (spL n).length ≤ (n + 2) * (n + 2) := by
  unfold spL
  rw [List.length_cons]
  have h := flat_len_le (l := List.range (n + 1)) (f := fun fr => (List.range (n + 1)).map fun to => (⟨(fr : Nat), (to : Nat)⟩ : Sp)) (B := n + 1) (fun a _ => by simp)
  rw [List.length_range] at h
  have e1 : (n + 1) * (n + 1) = n * n + 2 * n + 1 := by simp only [Nat.mul_add, Nat.add_mul]; omega
  have e2 : (n + 2) * (n + 2) = n * n + 4 * n + 4 := by simp only [Nat.mul_add, Nat.add_mul]; omega
  omega
theorem spL_mem {K : SrE} {s : Sp} (h : SpOk K s) : s ∈ spL K.w.length := by
  unfold spL
  rcases h with rfl | ⟨h1, h2, h3⟩
  · exact List.mem_cons_self
  · obtain ⟨fr, to⟩ := s
    dsimp only at h1 h2 h3
    refine List.mem_cons_of_mem _ (List.mem_flatMap.2 ⟨fr.toNat, List.mem_range.2 (by omega), List.mem_map.2 ⟨to.toNat, List.mem_range.2 (by omega), ?_⟩⟩)
    rw [Sp.mk.injEq]; omega
theorem vecs_len {n : Nat} : ∀ g, (vecs n g).length ≤ ((n + 2) * (n + 2)) ^ g
  | 0 => by simp [vecs]
  | g + 1 => by
    rw [vecs, Nat.pow_succ, Nat.mul_comm]
    refine Nat.le_trans (flat_len_le (B := ((n + 2) * (n + 2)) ^ g) fun s _ => ?_) (Nat.mul_le_mul_right _ spL_len)
    rw [List.length_map]; exact vecs_len g
theorem vecs_mem {n : Nat} : ∀ {g : Nat} {v : List Sp}, v.length = g → (∀ s ∈ v, s ∈ spL n) → v ∈ vecs n g
  | 0, v, h, _ => by rw [List.eq_nil_of_length_eq_zero h]; exact List.mem_singleton.2 rfl
  | g + 1, [], h, _ => by cases h
  | g + 1, s :: v, h, hm => List.mem_flatMap.2 ⟨s, hm s List.mem_cons_self, List.mem_map.2 ⟨v, vecs_mem (by simpa using h) fun t ht => hm t (List.mem_cons_of_mem _ ht), rfl⟩⟩
section
variable {K : SrE} {S : SS}
open Classical in
noncomputable def ptV (K : SrE) (S : SS) (p : Pt) : List Sp := if h : PtOk K S p then K.proj h.2.2.2.choose else []
theorem ptV_eq {p : Pt} (h : PtOk K S p) : Dec S.ts 0 (chunks (ptV K S p)) p.tk ∧ ptV K S p ∈ vecs K.w.length K.R.length := by
  have hs := h.2.2.2.choose_spec
  have e : ptV K S p = K.proj h.2.2.2.choose := by unfold ptV; rw [dif_pos h]
  rw [e]
  refine ⟨hs.2, vecs_mem (K.proj_len _) fun s hm => ?_⟩
  unfold SrE.proj at hm
  obtain ⟨m, _, rfl⟩ := List.mem_map.1 hm
  exact spL_mem (getD_ok hs.1)
noncomputable def ptT (K : SrE) (S : SS) (p : Pt) : Nat × Nat × List Sp := (p.u - 1, p.at_, ptV K S p)
theorem ptT_inj (hS : FrsOk K S) {p q : Pt} (hp : PtOk K S p) (hq : PtOk K S q) (h : ptT K S p = ptT K S q) : p = q := by
  unfold ptT at h
  rw [Prod.mk.injEq, Prod.mk.injEq] at h
  obtain ⟨h1, h2, h3⟩ := h
  have d1 := (ptV_eq hp).1
  have d2 := (ptV_eq hq).1
  rw [← h3] at d2
  have h4 := Dec.fn hS.nd d1 d2
  obtain ⟨a, b, c⟩ := p
  obtain ⟨a', b', c'⟩ := q
  have h5 := hp.1
  have h6 := hq.1
  dsimp only at *
  have : a = a' := by omega
  subst this h2 h4
  rfl
theorem cstP_elim {K : SrE} {fs : List Frm} {p : Pt} : K.cstP fs p = (fs[p.u - 1]?).elim 0 K.cst := by
  unfold SrE.cstP
  cases fs[p.u - 1]? <;> rfl
theorem range_map {α : Type} {c : α → Nat} : ∀ (l : List α), ((List.range l.length).map fun k => (l[k]?).elim 0 c).sum = (l.map c).sum
  | [] => rfl
  | a :: l => by
    rw [List.length_cons, List.range_succ_eq_map, List.map_cons, List.map_map, List.sum_cons, List.map_cons, List.sum_cons]
    have := range_map (c := c) l
    rw [← this]; rfl
theorem const_sum {α : Type} {c : Nat} : ∀ (l : List α), (l.map fun _ => c).sum = l.length * c
  | [] => by simp
  | a :: l => by rw [List.map_cons, List.sum_cons, const_sum l, List.length_cons, Nat.succ_mul]; omega
theorem pts_le (hS : FrsOk K S) {x : Nd} {ks : F} {e : Nat} (hp : Part K.re (.nd x ks .nil) 0 e) {L : List Pt} (hn : L.Nodup) (hL : ∀ p ∈ L, PtOk K S p) :
    (L.map (K.cstP S.fs)).sum ≤ (F.nd x ks .nil).weight * potN K.w.length (F.nd x ks .nil).depth * ((K.w.length + 1) * ((K.w.length + 2) * (K.w.length + 2)) ^ K.R.length) := by
  let g : Nat × Nat × List Sp → Nat := fun t => (S.fs[t.1]?).elim 0 K.cst
  have e1 : L.map (K.cstP S.fs) = (L.map (ptT K S)).map g := by rw [List.map_map]; exact List.map_congr_left fun p _ => cstP_elim
  let X : List (Nat × Nat × List Sp) := (List.range S.fs.length).flatMap fun k => (List.range (K.w.length + 1)).flatMap fun a => (vecs K.w.length K.R.length).map fun v => (k, a, v)
  have hX : ∀ t ∈ L.map (ptT K S), t ∈ X := fun t ht => by
    obtain ⟨p, hpL, rfl⟩ := List.mem_map.1 ht
    obtain ⟨h1, h2, h3, _⟩ := hL p hpL
    exact List.mem_flatMap.2 ⟨p.u - 1, List.mem_range.2 (by omega), List.mem_flatMap.2 ⟨p.at_, List.mem_range.2 (by omega), List.mem_map.2 ⟨_, (ptV_eq (hL p hpL)).2, rfl⟩⟩⟩
  have hN : (L.map (ptT K S)).Nodup := nodup_map_on hn fun a ha b hb he => ptT_inj hS (hL a ha) (hL b hb) he
  rw [e1]
  refine Nat.le_trans (nodupS hN hX) ?_
  have h2 : ∀ l : List Nat, ((l.flatMap fun k => (List.range (K.w.length + 1)).flatMap fun a => (vecs K.w.length K.R.length).map fun v => (k, a, v)).map g).sum ≤ (l.map fun k => (S.fs[k]?).elim 0 K.cst).sum * ((K.w.length + 1) * ((K.w.length + 2) * (K.w.length + 2)) ^ K.R.length) := by
    intro l
    induction l with
    | nil => simp
    | cons k l ih =>
      rw [List.flatMap_cons, List.map_append, List.sum_append, List.map_cons, List.sum_cons, Nat.add_mul]
      refine Nat.add_le_add ?_ ih
      refine Nat.le_trans (fm_le (B := ((K.w.length + 2) * (K.w.length + 2)) ^ K.R.length * ((S.fs[k]?).elim 0 K.cst)) fun a _ => ?_) ?_
      · refine Nat.le_trans (map_le (B := (S.fs[k]?).elim 0 K.cst) fun v _ => Nat.le_refl _) ?_
        exact Nat.mul_le_mul_right _ (vecs_len _)
      · rw [List.length_range, Nat.mul_comm ((S.fs[k]?).elim 0 K.cst), ← Nat.mul_assoc]; exact Nat.le_refl _
  refine Nat.le_trans (h2 _) (Nat.mul_le_mul_right _ ?_); refine Nat.le_trans (Nat.le_of_eq (range_map (c := K.cst) S.fs)) ?_; refine Nat.le_trans (nodupS (L := en1 K.w.length S.fs x ks 0 0) hS.fn fun f hf => ?_) ?_
  · obtain ⟨k, hk⟩ := List.mem_iff_getElem?.1 hf
    exact en_all hS hp k f hk
  · rw [← enF_one (a := 0)]
    exact (en_sum (.nd x ks .nil) 0 0 0 e hp).1
end
end Go.HL.Kl.Mc
namespace Go.HL.Kl.Mc
open Go Go.HL Go.HL.Kl AskE
structure QB (K : SrE) (S : SS) (f used : Nat) : Prop where
  ok : FrsOk K S
  nd : S.F.Nodup
  pts : ∀ p ∈ S.F, PtOk K S p
  le : f ≤ S.fuel + used + (S.F.map (K.cstP S.fs)).sum
section
variable {K : SrE} {S S' : SS} {f used i j e : Nat} {x : Nd} {ks : F}
theorem QB.start {N : Nat} (hs : S = ⟨[], [], [], List.replicate N noS, f, 0⟩) : QB K S f 0 := by
  subst hs
  exact ⟨⟨fun _ h => (by cases h), fun k g h => (by simp at h), fun s h => .inl (List.eq_of_mem_replicate h), List.nodup_nil, fun _ h => (by cases h), List.nodup_nil⟩, List.nodup_nil, fun _ h => (by cases h), Nat.le_add_right _ _⟩
theorem QB.run {b : Bool} (h : QB K S f used) (hp : Part K.re (.nd x ks .nil) 0 e) (hij : i ≤ j) (hj : j ≤ K.w.length) (hE : Ev K S (.take 0 i j 0) b S') :
    ∃ L : List Pt, FrsOk K S' ∧ L.Nodup ∧ (∀ p ∈ L, PtOk K S' p) ∧ f ≤ S'.fuel + (used + (ks.size + 1)) + (L.map (K.cstP S'.fs)).sum ∧ (b = false → L = S'.F) := by
  obtain ⟨a1, ⟨z, hz⟩, ⟨v, hv⟩, T, N, a3, a4, a5, a6, a7⟩ := hE.gd h.ok ⟨⟨x, ks, e, hp⟩, hij, hj, Nat.zero_le _, 0, .inl ⟨rfl, rfl⟩, .refl⟩
  have e1 : S.F.map (K.cstP S'.fs) = S.F.map (K.cstP S.fs) := by rw [hz]; exact map_cst_ext fun p hp => ⟨(h.pts p hp).1, (h.pts p hp).2.1⟩
  refine ⟨T ++ (N ++ S.F), a1, a6 h.nd, fun p hp => ?_, ?_, fun hb => by rw [a3 hb, a4]; rfl⟩
  · rw [← List.append_assoc] at hp
    rcases List.mem_append.1 hp with hp | hp
    · exact (a5 p hp).1
    · exact (h.pts p hp).ext ⟨z, hz⟩ ⟨v, hv⟩
  · have h1 := h.le
    have h2 : fcQ K (.take 0 i j 0) = ks.size + 1 := by
      show (foAt K.re 0 1).size = _
      rw [fo1 hp]; simp [F.size, Nat.add_comm]
    rw [h2] at a7
    rw [← List.append_assoc, List.map_append, List.sum_append, e1]
    omega
theorem QB.step (h : QB K S f used) (hp : Part K.re (.nd x ks .nil) 0 e) (hij : i ≤ j) (hj : j ≤ K.w.length) (hE : Ev K S (.take 0 i j 0) false S') : QB K S' f (used + (ks.size + 1)) := by
  obtain ⟨L, h1, h2, h3, h4, h5⟩ := h.run hp hij hj hE
  obtain rfl := h5 rfl
  exact ⟨h1, h2, h3, h4⟩
theorem pow_sq {N g : Nat} : (N * N) ^ g = N ^ (2 * g) := by rw [Nat.pow_mul, Nat.pow_two]
theorem ar_all {n W d g u : Nat} (hu : u ≤ (n + 2) * (n + 2) * W) (hd : 1 ≤ d) : u + W * potN n d * ((n + 1) * ((n + 2) * (n + 2)) ^ g) ≤ W * (n + 2) ^ (2 * d + 2 * g + 4) := by
  have eA : potN n d * ((n + 2) * (n + 2)) ^ g = (n + 2) ^ (2 * d + 1 + 2 * g) := by rw [potN, pow_sq, ← Nat.pow_add]
  have h1 : (n + 2) * (n + 2) ≤ (n + 2) ^ (2 * d + 1 + 2 * g) := by
    rw [← Nat.pow_two]; exact Nat.pow_le_pow_right (by omega) (by omega)
  have h2 : W * potN n d * ((n + 1) * ((n + 2) * (n + 2)) ^ g) = (n + 1) * (W * (n + 2) ^ (2 * d + 1 + 2 * g)) := by rw [← eA]; ac_rfl
  have h3 : u ≤ W * (n + 2) ^ (2 * d + 1 + 2 * g) := Nat.le_trans hu (by rw [Nat.mul_comm]; exact Nat.mul_le_mul_left _ h1)
  have h4 : (n + 2) * (W * (n + 2) ^ (2 * d + 1 + 2 * g)) = (n + 1) * (W * (n + 2) ^ (2 * d + 1 + 2 * g)) + W * (n + 2) ^ (2 * d + 1 + 2 * g) := Nat.succ_mul _ _
  have h5 : (n + 2) * (W * (n + 2) ^ (2 * d + 1 + 2 * g)) ≤ W * (n + 2) ^ (2 * d + 2 * g + 4) := by
    have : (n + 2) * (W * (n + 2) ^ (2 * d + 1 + 2 * g)) = W * (n + 2) ^ (2 * d + 1 + 2 * g + 1) := by rw [Nat.pow_succ]; ac_rfl
    rw [this]
    exact Nat.mul_le_mul_left _ (Nat.pow_le_pow_right (by omega) (by omega))
  omega
theorem QB.bound {b : Bool} (h : QB K S f used) (hp : Part K.re (.nd x ks .nil) 0 e) (hij : i ≤ j) (hj : j ≤ K.w.length) (hE : Ev K S (.take 0 i j 0) b S') (hu : used + (ks.size + 1) ≤ (K.w.length + 2) * (K.w.length + 2) * (F.nd x ks .nil).weight) :
    f ≤ S'.fuel + (F.nd x ks .nil).weight * (K.w.length + 2) ^ (2 * (ks.depth + 1) + 2 * K.R.length + 4) := by
  obtain ⟨L, h1, h2, h3, h4, _⟩ := h.run hp hij hj hE
  have h5 := pts_le h1 hp h2 h3
  have hd : (F.nd x ks .nil).depth = ks.depth + 1 := by simp only [F.depth]; omega
  rw [hd] at h5
  have h6 := ar_all (g := K.R.length) (d := ks.depth + 1) hu (by omega)
  omega
theorem enL_ge {X b : Nat} (hb : 0 < b) (hX : X ≤ 4611686018427387904) : ∀ (k out : Nat), X ≤ out * b ^ k → X ≤ enL b k out
  | 0, out, h => by simpa [enL] using h
  | k + 1, out, h => by
    by_cases hbig : 4611686018427387904 / b < out
    · rw [enL_yes hbig]; exact hX
    · rw [enL_no hbig]
      exact enL_ge hb hX k (out * b) (by rw [Nat.mul_assoc, ← Nat.pow_succ']; exact h)
end
end Go.HL.Kl.Mc
namespace Go.HL.Kl.Mc
open Go Go.HL Go.HL.Kl AskE
inductive EvD (K : SrE) : SS → Bool → SQ → Bool → SS → Bool → Prop
  | takeDry {S : SS} {d : Bool} {at_ i j up : Nat} (h : S.fuel = 0 ∨ d = true) : EvD K S d (.take at_ i j up) false S true
  | takeNo {S : SS} {at_ i j up : Nat} {x : Nd} (hx : K.re[at_]? = some x) (hf : 0 < S.fuel) (ho : x.op = 1 ∨ x.op = 2 ∨ x.op = 3 ∨ x.op = 8) (hg : ¬ K.good x S.cs i j) : EvD K S false (.take at_ i j up) false S.tick false
  | takeYes {d2 : Bool} {S S' : SS} {at_ i j up : Nat} {x : Nd} {b : Bool} (hx : K.re[at_]? = some x) (hf : 0 < S.fuel) (ho : x.op = 1 ∨ x.op = 2 ∨ x.op = 3 ∨ x.op = 8) (hg : K.good x S.cs i j) (h : EvD K S.tick false (.next up j) b S' d2) : EvD K S false (.take at_ i j up) b S' d2
  | takeAlt {d2 : Bool} {S S' : SS} {at_ i j up : Nat} {x : Nd} {b : Bool} (hx : K.re[at_]? = some x) (hf : 0 < S.fuel) (ho : x.op = 5) (h : EvD K S.tick false (.alt (at_ + 1) x.kids.toNat i j up) b S' d2) : EvD K S false (.take at_ i j up) b S' d2
  | takeCat {d2 : Bool} {S S2 S' : SS} {at_ i j up u : Nat} {x : Nd} {b : Bool} (hx : K.re[at_]? = some x) (hf : 0 < S.fuel) (ho : x.op = 4) (hp : S.tick.push ⟨up, at_, at_ + 1, x.kids.toNat, i, j⟩ = (u, S2)) (h : EvD K S2 false (.next u i) b S' d2) : EvD K S false (.take at_ i j up) b S' d2
  | takeRep {d2 : Bool} {S S2 S' : SS} {at_ i j up u : Nat} {x : Nd} {b : Bool} (hx : K.re[at_]? = some x) (hf : 0 < S.fuel) (ho : x.op = 6) (hp : S.tick.push ⟨up, at_, 0, 0, 0, j⟩ = (u, S2)) (h : EvD K S2 false (.next u i) b S' d2) : EvD K S false (.take at_ i j up) b S' d2
  | takeGrpY {d2 : Bool} {S S2 S' : SS} {at_ i j up u : Nat} {x : Nd} (hx : K.re[at_]? = some x) (hf : 0 < S.fuel) (ho : x.op = 7) (hp : ({ S.tick with cs := fgt (K.inn (at_ + 1) (K.bh at_)) S.cs } : SS).push ⟨up, at_, 0, 0, i, j⟩ = (u, S2)) (h : EvD K S2 false (.take (at_ + 1) i j u) true S' d2) : EvD K S false (.take at_ i j up) true S' d2
  | takeGrpN {d2 : Bool} {S S2 S' : SS} {at_ i j up u : Nat} {x : Nd} (hx : K.re[at_]? = some x) (hf : 0 < S.fuel) (ho : x.op = 7) (hp : ({ S.tick with cs := fgt (K.inn (at_ + 1) (K.bh at_)) S.cs } : SS).push ⟨up, at_, 0, 0, i, j⟩ = (u, S2)) (h : EvD K S2 false (.take (at_ + 1) i j u) false S' d2) : EvD K S false (.take at_ i j up) false { S' with cs := rst (K.inn (at_ + 1) (K.bh at_)) (emW (K.inn (at_ + 1) (K.bh at_)) S.cs) S'.cs } d2
  | altNil {d : Bool} {S : SS} {kid i j up : Nat} : EvD K S d (.alt kid 0 i j up) false S d
  | altYes {d d2 : Bool} {S S' : SS} {kid l i j up : Nat} (h : EvD K S d (.take kid i j up) true S' d2) : EvD K S d (.alt kid (l + 1) i j up) true S' d2
  | altNo {d d1 d2 : Bool} {S S1 S' : SS} {kid l i j up : Nat} {b : Bool} (h : EvD K S d (.take kid i j up) false S1 d1) (h' : EvD K S1 d1 (.alt (K.bh kid) l i j up) b S' d2) : EvD K S d (.alt kid (l + 1) i j up) b S' d2
  | nextZero {d : Bool} {S : SS} {at_ : Nat} : EvD K S d (.next 0 at_) true S d
  | nextMemo {d : Bool} {S : SS} {k at_ : Nat} (h : (⟨k + 1, at_, (K.code S).1⟩ : Pt) ∈ S.F) : EvD K S d (.next (k + 1) at_) false (K.code S).2 d
  | nextGo {d d2 : Bool} {S S2 : SS} {k at_ : Nat} {f : Frm} {b : Bool} (hn : (⟨k + 1, at_, (K.code S).1⟩ : Pt) ∉ S.F) (hf : S.fs[k]? = some f) (h : EvD K { (K.code S).2 with wk := S.wk + 1 } d (.body f at_) b S2 d2) : EvD K S d (.next (k + 1) at_) b (if d2 = true then S2 else (S2.fail b ⟨k + 1, at_, (K.code S).1⟩)) d2
  | bodyCat {d d2 : Bool} {S S' : SS} {f : Frm} {at_ : Nat} {x : Nd} {b : Bool} (hx : K.re[f.node]? = some x) (ho : x.op = 4) (h : EvD K S d (.row f at_) b S' d2) : EvD K S d (.body f at_) b S' d2
  | bodyRep {d d2 : Bool} {S S' : SS} {f : Frm} {at_ : Nat} {x : Nd} {b : Bool} (hx : K.re[f.node]? = some x) (ho : x.op = 6) (h : EvD K S d (.rnd f at_) b S' d2) : EvD K S d (.body f at_) b S' d2
  | bodyGrpY {d d2 : Bool} {S S' : SS} {f : Frm} {at_ : Nat} {x : Nd} (hx : K.re[f.node]? = some x) (h4 : ¬ x.op = 4) (h6 : ¬ x.op = 6) (h : EvD K { S with cs := S.cs.set x.n.toNat ⟨f.fr, f.to⟩ } d (.next f.up at_) true S' d2) : EvD K S d (.body f at_) true S' d2
  | bodyGrpN {d d2 : Bool} {S S' : SS} {f : Frm} {at_ : Nat} {x : Nd} (hx : K.re[f.node]? = some x) (h4 : ¬ x.op = 4) (h6 : ¬ x.op = 6) (h : EvD K { S with cs := S.cs.set x.n.toNat ⟨f.fr, f.to⟩ } d (.next f.up at_) false S' d2) : EvD K S d (.body f at_) false { S' with cs := S'.cs.set x.n.toNat (S.cs.getD x.n.toNat noS) } d2
  | rowZN {d : Bool} {S : SS} {f : Frm} {at_ : Nat} (hl : f.left = 0) (he : at_ ≠ f.to) : EvD K S d (.row f at_) false S d
  | rowZ {d d2 : Bool} {S S' : SS} {f : Frm} {at_ : Nat} {b : Bool} (hl : f.left = 0) (he : at_ = f.to) (h : EvD K S d (.next f.up at_) b S' d2) : EvD K S d (.row f at_) b S' d2
  | rowS {d d2 : Bool} {S S1 S' : SS} {f : Frm} {at_ u l : Nat} {b : Bool} (hl : f.left = l + 1) (hp : S.push { f with kid := K.bh f.kid, left := l, fr := 0 } = (u, S1)) (h : EvD K S1 d (.rowL f u at_ (ends at_ f.to)) b S' d2) : EvD K S d (.row f at_) b S' d2
  | rowLNil {d : Bool} {S : SS} {f : Frm} {u at_ : Nat} : EvD K S d (.rowL f u at_ []) false S d
  | rowLYes {d d2 : Bool} {S S' : SS} {f : Frm} {u at_ e : Nat} {es : List Nat} (h : EvD K S d (.take f.kid at_ e u) true S' d2) : EvD K S d (.rowL f u at_ (e :: es)) true S' d2
  | rowLLast {d d2 : Bool} {S S' : SS} {f : Frm} {u at_ e : Nat} {es : List Nat} (hl : f.left = 1) (h : EvD K S d (.take f.kid at_ e u) false S' d2) : EvD K S d (.rowL f u at_ (e :: es)) false S' d2
  | rowLNo {d d1 d2 : Bool} {S S1 S' : SS} {f : Frm} {u at_ e : Nat} {es : List Nat} {b : Bool} (hl : f.left ≠ 1) (h : EvD K S d (.take f.kid at_ e u) false S1 d1) (h' : EvD K S1 d1 (.rowL f u at_ es) b S' d2) : EvD K S d (.rowL f u at_ (e :: es)) b S' d2
  | rndYes {d d2 : Bool} {S S1 S' : SS} {f : Frm} {at_ u : Nat} {x : Nd} (hx : K.re[f.node]? = some x) (hm : x.mx < 0 ∨ (f.kid : Int) < x.mx) (hp : S.push { f with kid := satK x f.kid } = (u, S1)) (h : EvD K S1 d (.rndL f u at_ (ends at_ f.to)) true S' d2) : EvD K S d (.rnd f at_) true S' d2
  | rndEnd {d d1 d2 : Bool} {S S1 S2 S' : SS} {f : Frm} {at_ u : Nat} {x : Nd} {b : Bool} (hx : K.re[f.node]? = some x) (hm : x.mx < 0 ∨ (f.kid : Int) < x.mx) (hp : S.push { f with kid := satK x f.kid } = (u, S1)) (h : EvD K S1 d (.rndL f u at_ (ends at_ f.to)) false S2 d1) (he : at_ = f.to ∧ x.mn ≤ (f.kid : Int)) (h' : EvD K S2 d1 (.next f.up at_) b S' d2) : EvD K S d (.rnd f at_) b S' d2
  | rndNo {d d2 : Bool} {S S1 S2 : SS} {f : Frm} {at_ u : Nat} {x : Nd} (hx : K.re[f.node]? = some x) (hm : x.mx < 0 ∨ (f.kid : Int) < x.mx) (hp : S.push { f with kid := satK x f.kid } = (u, S1)) (h : EvD K S1 d (.rndL f u at_ (ends at_ f.to)) false S2 d2) (he : ¬ (at_ = f.to ∧ x.mn ≤ (f.kid : Int))) : EvD K S d (.rnd f at_) false S2 d2
  | rnd0End {d d2 : Bool} {S S' : SS} {f : Frm} {at_ : Nat} {x : Nd} {b : Bool} (hx : K.re[f.node]? = some x) (hm : ¬ (x.mx < 0 ∨ (f.kid : Int) < x.mx)) (he : at_ = f.to ∧ x.mn ≤ (f.kid : Int)) (h' : EvD K S d (.next f.up at_) b S' d2) : EvD K S d (.rnd f at_) b S' d2
  | rnd0No {d : Bool} {S : SS} {f : Frm} {at_ : Nat} {x : Nd} (hx : K.re[f.node]? = some x) (hm : ¬ (x.mx < 0 ∨ (f.kid : Int) < x.mx)) (he : ¬ (at_ = f.to ∧ x.mn ≤ (f.kid : Int))) : EvD K S d (.rnd f at_) false S d
  | rndLNil {d : Bool} {S : SS} {f : Frm} {u at_ : Nat} : EvD K S d (.rndL f u at_ []) false S d
  | rndLBrk {d : Bool} {S : SS} {f : Frm} {u at_ e : Nat} {es : List Nat} {x : Nd} (hx : K.re[f.node]? = some x) (hb : brk x f at_ e) : EvD K S d (.rndL f u at_ (e :: es)) false S d
  | rndLYes {d d2 : Bool} {S S' : SS} {f : Frm} {u at_ e : Nat} {es : List Nat} {x : Nd} (hx : K.re[f.node]? = some x) (hb : ¬ brk x f at_ e) (h : EvD K { S with cs := fgt (K.inn (f.node + 1) (K.bh f.node)) S.cs } d (.take (f.node + 1) at_ e u) true S' d2) : EvD K S d (.rndL f u at_ (e :: es)) true S' d2
  | rndLNo {d d1 d2 : Bool} {S S1 S' : SS} {f : Frm} {u at_ e : Nat} {es : List Nat} {x : Nd} {b : Bool} (hx : K.re[f.node]? = some x) (hb : ¬ brk x f at_ e) (h : EvD K { S with cs := fgt (K.inn (f.node + 1) (K.bh f.node)) S.cs } d (.take (f.node + 1) at_ e u) false S1 d1)      (h' : EvD K { S1 with cs := rst (K.inn (f.node + 1) (K.bh f.node)) (emW (K.inn (f.node + 1) (K.bh f.node)) S.cs) S1.cs } d1 (.rndL f u at_ es) b S' d2) : EvD K S d (.rndL f u at_ (e :: es)) b S' d2
def VOp (K : SrE) (f : Frm) : Prop := ∃ x, K.re[f.node]? = some x ∧ (x.op = 4 ∨ x.op = 6 ∨ x.op = 7)
structure FV (K : SrE) (S : SS) : Prop where
  ch : Chn S.fs
  vo : ∀ f ∈ S.fs, VOp K f
  fn : S.fs.Nodup
def Kin (K : SrE) (f g : Frm) : Prop := g = { f with kid := K.bh f.kid, left := f.left - 1, fr := 0 } ∨ ∃ x, K.re[f.node]? = some x ∧ g = { f with kid := satK x f.kid }
structure Dried (K : SrE) (fs0 : List Frm) (S : SS) : Prop where
  fv : FV K S
  fs : ∃ a, S.fs = fs0 ++ a ∧ ∀ g ∈ a, ∃ f ∈ fs0, Kin K f g
theorem FV.cs {K : SrE} {S S' : SS} (h : FV K S) (h1 : S'.fs = S.fs) : FV K S' := ⟨by rw [h1]; exact h.ch, by rw [h1]; exact h.vo, by rw [h1]; exact h.fn⟩
theorem Dried.cs {K : SrE} {fs0 : List Frm} {S S' : SS} (h : Dried K fs0 S) (h1 : S'.fs = S.fs) : Dried K fs0 S' := ⟨h.fv.cs h1, by rw [h1]; exact h.fs⟩
theorem Dried.push {K : SrE} {fs0 : List Frm} {S S1 : SS} {f g : Frm} {u : Nat} (h : Dried K fs0 S) (hf : f ∈ fs0) (hk : Kin K f g) (hv : VOp K g) (hu : g.up ≤ S.fs.length) (hp : S.push g = (u, S1)) : Dried K fs0 S1 ∧ S1.cs = S.cs ∧ S1.ts = S.ts ∧ S1.fuel = S.fuel := by
  unfold SS.push at hp
  split at hp
  · cases hp; exact ⟨h, rfl, rfl, rfl⟩
  · rename_i hn
    cases hp
    obtain ⟨a, ha, hk'⟩ := h.fs
    refine ⟨⟨⟨h.fv.ch.snoc hu, fun q hq => ?_, ?_⟩, a ++ [g], ?_, fun q hq => ?_⟩, rfl, rfl, rfl⟩
    · rcases List.mem_append.1 hq with hq | hq
      · exact h.fv.vo q hq
      · rw [List.mem_singleton.1 hq]; exact hv
    · exact List.nodup_append.2 ⟨h.fv.fn, by simp, fun a ha b hb => by
        obtain rfl := List.mem_singleton.1 hb
        intro e; subst e
        exact fnd_none hn ha⟩
    · show S.fs ++ [g] = _
      rw [ha, List.append_assoc]
    · rcases List.mem_append.1 hq with hq | hq
      · exact hk' q hq
      · rw [List.mem_singleton.1 hq]; exact ⟨f, hf, hk⟩
theorem Dried.len {K : SrE} {fs0 : List Frm} {S : SS} (h : Dried K fs0 S) : fs0.length ≤ S.fs.length := by
  obtain ⟨a, ha, _⟩ := h.fs
  rw [ha, List.length_append]; omega
section
variable {K : SrE} {fs0 : List Frm}
theorem dry_rowL {S : SS} {f : Frm} {u at_ : Nat} : ∀ es : List Nat, EvD K S true (.rowL f u at_ es) false S true
  | [] => .rowLNil
  | e :: es => by
    by_cases hl : f.left = 1
    · exact .rowLLast hl (.takeDry (.inr rfl))
    · exact .rowLNo hl (.takeDry (.inr rfl)) (dry_rowL es)
theorem dry_rndL {f : Frm} {u at_ : Nat} {x : Nd} (hx : K.re[f.node]? = some x) : ∀ (es : List Nat) (S : SS), ∃ cs, EvD K S true (.rndL f u at_ es) false { S with cs := cs } true ∧ cs.length = S.cs.length
  | [], S => ⟨S.cs, .rndLNil, rfl⟩
  | e :: es, S => by
    by_cases hb : brk x f at_ e
    · exact ⟨S.cs, .rndLBrk hx hb, rfl⟩
    · obtain ⟨cs, h1, h2⟩ := dry_rndL hx es { S with cs := rst (K.inn (f.node + 1) (K.bh f.node)) (emW (K.inn (f.node + 1) (K.bh f.node)) S.cs) (fgt (K.inn (f.node + 1) (K.bh f.node)) S.cs) }
      refine ⟨cs, .rndLNo hx hb (.takeDry (.inr rfl)) h1, h2.trans ?_⟩
      show (rst _ _ _).length = _
      rw [rst_len, fgt_len]
theorem code_ts (S : SS) : (K.code S).2.ts.length ≤ S.ts.length + K.cR := by
  have h := stG_grow (chunks (K.proj S.cs)) S.ts 0
  rw [chunks_len, K.proj_len] at h
  exact h
theorem dry_next : ∀ (u : Nat), u ≤ fs0.length → ∀ (S : SS) (at_ : Nat), Dried K fs0 S → ∃ b S2, EvD K S true (.next u at_) b S2 true ∧ Dried K fs0 S2 ∧ S2.ts.length ≤ S.ts.length + K.cR * (u + 1) ∧ S2.cs.length = S.cs.length := by
  intro u
  induction u using Nat.strongRecOn with
  | ind u ih =>
    intro hu S at_ hD
    cases u with
    | zero => exact ⟨true, S, .nextZero, hD, Nat.le_add_right _ _, rfl⟩
    | succ k =>
      have hts := code_ts (K := K) S
      have hmul : K.cR * (k + 1 + 1) = K.cR * (k + 1) + K.cR := Nat.mul_succ _ _
      by_cases hm : (⟨k + 1, at_, (K.code S).1⟩ : Pt) ∈ S.F
      · exact ⟨false, _, .nextMemo hm, hD.cs rfl, by omega, rfl⟩
      · obtain ⟨a, ha, hk⟩ := hD.fs
        have hf0 : fs0[k]? = some fs0[k] := List.getElem?_eq_getElem (by omega)
        have hf : S.fs[k]? = some fs0[k] := by rw [ha, List.getElem?_append_left (by omega)]; exact hf0
        have hmem : fs0[k] ∈ fs0 := List.mem_of_getElem? hf0
        have hup := hD.fv.ch k _ hf
        have hlen := hD.len
        have hD1 : Dried K fs0 { (K.code S).2 with wk := S.wk + 1 } := hD.cs rfl
        suffices hb : ∃ b S2, EvD K { (K.code S).2 with wk := S.wk + 1 } true (.body fs0[k] at_) b S2 true ∧ Dried K fs0 S2 ∧ S2.ts.length ≤ (K.code S).2.ts.length + K.cR * (k + 1) ∧ S2.cs.length = S.cs.length by
          obtain ⟨b, S2, h1, h2, h3, h4⟩ := hb
          exact ⟨b, S2, .nextGo hm hf h1, h2, by omega, h4⟩
        obtain ⟨x, hx, ho⟩ := hD.fv.vo _ (List.mem_of_getElem? hf)
        have nxt : ∀ S1, Dried K fs0 S1 → ∃ b S2, EvD K S1 true (.next fs0[k].up at_) b S2 true ∧ Dried K fs0 S2 ∧ S2.ts.length ≤ S1.ts.length + K.cR * (k + 1) ∧ S2.cs.length = S1.cs.length := fun S1 h1 => by
          obtain ⟨b, S2, a1, a2, a3, a4⟩ := ih fs0[k].up (by omega) (by omega) S1 at_ h1
          exact ⟨b, S2, a1, a2, Nat.le_trans a3 (Nat.add_le_add_left (Nat.mul_le_mul_left _ (by omega)) _), a4⟩
        rcases ho with ho | ho | ho
        · by_cases hl : fs0[k].left = 0
          · by_cases he : at_ = fs0[k].to
            · obtain ⟨b, S2, a1, a2, a3, a4⟩ := nxt _ hD1
              exact ⟨b, S2, .bodyCat hx ho (.rowZ hl he a1), a2, a3, a4⟩
            · exact ⟨false, _, .bodyCat hx ho (.rowZN hl he), hD1, Nat.le_add_right _ _, rfl⟩
          · generalize hpu : ({ (K.code S).2 with wk := S.wk + 1 } : SS).push { fs0[k] with kid := K.bh fs0[k].kid, left := fs0[k].left - 1, fr := 0 } = pr
            obtain ⟨u', S1⟩ := pr
            obtain ⟨b1, b2, b3, b4⟩ := hD1.push hmem (.inl rfl) ⟨x, hx, .inl ho⟩ (by show fs0[k].up ≤ S.fs.length; omega) hpu
            exact ⟨false, S1, .bodyCat hx ho (.rowS (l := fs0[k].left - 1) (by omega) hpu (dry_rowL _)), b1, by rw [b3]; exact Nat.le_add_right _ _, by rw [b2]; rfl⟩
        · by_cases hmx : x.mx < 0 ∨ (fs0[k].kid : Int) < x.mx
          · generalize hpu : ({ (K.code S).2 with wk := S.wk + 1 } : SS).push { fs0[k] with kid := satK x fs0[k].kid } = pr
            obtain ⟨u', S1⟩ := pr
            obtain ⟨b1, b2, b3, b4⟩ := hD1.push hmem (.inr ⟨x, hx, rfl⟩) ⟨x, hx, .inr (.inl ho)⟩ (by show fs0[k].up ≤ S.fs.length; omega) hpu
            obtain ⟨cs, c1, c2⟩ := dry_rndL (u := u') (at_ := at_) hx (ends at_ fs0[k].to) S1
            by_cases he : at_ = fs0[k].to ∧ x.mn ≤ (fs0[k].kid : Int)
            · obtain ⟨b, S2, a1, a2, a3, a4⟩ := nxt { S1 with cs := cs } (b1.cs rfl)
              exact ⟨b, S2, .bodyRep hx ho (.rndEnd hx hmx hpu c1 he a1), a2, by rw [show ({ S1 with cs := cs } : SS).ts = S1.ts from rfl, b3] at a3; exact a3, by rw [a4]; show cs.length = _; rw [c2, b2]; rfl⟩
            · exact ⟨false, _, .bodyRep hx ho (.rndNo hx hmx hpu c1 he), b1.cs rfl, by show S1.ts.length ≤ _; rw [b3]; exact Nat.le_add_right _ _, by show cs.length = _; rw [c2, b2]; rfl⟩
          · by_cases he : at_ = fs0[k].to ∧ x.mn ≤ (fs0[k].kid : Int)
            · obtain ⟨b, S2, a1, a2, a3, a4⟩ := nxt _ hD1
              exact ⟨b, S2, .bodyRep hx ho (.rnd0End hx hmx he a1), a2, a3, a4⟩
            · exact ⟨false, _, .bodyRep hx ho (.rnd0No hx hmx he), hD1, Nat.le_add_right _ _, rfl⟩
        · obtain ⟨b, S2, a1, a2, a3, a4⟩ := nxt { (K.code S).2 with wk := S.wk + 1, cs := S.cs.set x.n.toNat ⟨fs0[k].fr, fs0[k].to⟩ } (hD1.cs rfl)
          have a4' : S2.cs.length = S.cs.length := by rw [a4]; exact List.length_set ..
          cases b with
          | true => exact ⟨true, S2, .bodyGrpY hx (by omega) (by omega) a1, a2, a3, a4'⟩
          | false => exact ⟨false, _, .bodyGrpN hx (by omega) (by omega) a1, a2.cs rfl, a3, by show (List.set _ _ _).length = _; rw [List.length_set]; exact a4'⟩
end
end Go.HL.Kl.Mc
namespace Go.HL.Kl.Mc
open Go Go.HL Go.HL.Kl AskE
def LgM (K : SrE) (S : SS) : SQ → Prop
  | .take _ _ _ up => up ≤ S.fs.length
  | .alt _ _ _ _ up => up ≤ S.fs.length
  | .next u _ => u ≤ S.fs.length
  | .body f _ => f.up ≤ S.fs.length ∧ VOp K f
  | .row f _ => f.up ≤ S.fs.length ∧ VOp K f
  | .rowL f u _ _ => f.up ≤ S.fs.length ∧ u ≤ S.fs.length
  | .rnd f _ => f.up ≤ S.fs.length ∧ VOp K f
  | .rndL f u _ _ => f.up ≤ S.fs.length ∧ u ≤ S.fs.length
def slQ : SQ → Nat
  | .body _ _ => 1
  | .row _ _ => 1
  | .rnd _ _ => 1
  | _ => 0
abbrev SS.fu (S : SS) (f : Nat) : SS := { S with fuel := f }
def Dr (K : SrE) (C : Nat) (S : SS) (q : SQ) (S' : SS) (sl f : Nat) : Prop := ∃ b2 S2 fs0, EvD K (S.fu f) false q b2 S2 true ∧ Dried K fs0 S2 ∧ S.fs.length ≤ fs0.length ∧ fs0.length ≤ S'.fs.length ∧ S2.ts.length ≤ S'.ts.length + C * (S'.wk - S.wk + sl) ∧ S2.cs.length = S.cs.length
theorem push_fv {K : SrE} {S S1 : SS} {f : Frm} {u : Nat} (h : S.push f = (u, S1)) (hS : FV K S) (hv : VOp K f) (hu : f.up ≤ S.fs.length) : FV K S1 ∧ u ≤ S1.fs.length ∧ S1.wk = S.wk ∧ S1.fuel = S.fuel := by
  unfold SS.push at h
  split at h
  · rename_i k hk
    cases h
    exact ⟨hS, by have := (List.getElem?_eq_some_iff.1 (fnd_some hk)).1; omega, rfl, rfl⟩
  · rename_i hn
    cases h
    refine ⟨⟨hS.ch.snoc hu, fun q hq => ?_, ?_⟩, by simp, rfl, rfl⟩
    · rcases List.mem_append.1 hq with hq | hq
      · exact hS.vo q hq
      · rw [List.mem_singleton.1 hq]; exact hv
    · exact List.nodup_append.2 ⟨hS.fn, by simp, fun a ha b hb => by
        obtain rfl := List.mem_singleton.1 hb
        intro e; subst e
        exact fnd_none hn ha⟩
theorem push_fu {S S1 : SS} {f : Frm} {u n : Nat} (h : S.push f = (u, S1)) : (S.fu n).push f = (u, S1.fu n) := by
  unfold SS.push at h ⊢
  show (match fnd f S.fs with | some k => (k + 1, S.fu n) | none => (S.fs.length + 1, { S.fu n with fs := S.fs ++ [f] })) = _
  split at h
  · rename_i k hk; cases h; rw [hk]
  · rename_i hn; cases h; rw [hn]
theorem dry_alt {K : SrE} {i j up : Nat} {S : SS} : ∀ (l kid : Nat), EvD K S true (.alt kid l i j up) false S true
  | 0, _ => .altNil
  | l + 1, kid => .altNo (.takeDry (.inr rfl)) (dry_alt l _)
theorem dry_rnd {K : SrE} {fs0 : List Frm} {S S1 S2 : SS} {f : Frm} {at_ u : Nat} {x : Nd} {b2 : Bool} (hx : K.re[f.node]? = some x) (hm : x.mx < 0 ∨ (f.kid : Int) < x.mx) (hp : S.push { f with kid := satK x f.kid } = (u, S1)) (hE : EvD K S1 false (.rndL f u at_ (ends at_ f.to)) b2 S2 true) (hD : Dried K fs0 S2) (hu : f.up ≤ fs0.length) :
    ∃ b3 S3, EvD K S false (.rnd f at_) b3 S3 true ∧ Dried K fs0 S3 ∧ S3.ts.length ≤ S2.ts.length + K.cR * (f.up + 1) ∧ S3.cs.length = S2.cs.length := by
  cases b2 with
  | true => exact ⟨true, S2, .rndYes hx hm hp hE, hD, Nat.le_add_right _ _, rfl⟩
  | false =>
    by_cases he : at_ = f.to ∧ x.mn ≤ (f.kid : Int)
    · obtain ⟨b3, S3, h1, h2, h3, h4⟩ := dry_next f.up hu S2 at_ hD
      exact ⟨b3, S3, .rndEnd hx hm hp hE he h1, h2, h3, h4⟩
    · exact ⟨false, S2, .rndNo hx hm hp hE he, hD, Nat.le_add_right _ _, rfl⟩
def SimF (K : SrE) (C : Nat) (S : SS) (q : SQ) (b : Bool) (S' : SS) (sl : Nat) : Prop :=
  FV K S' ∧ (∀ f, S.fuel ≤ f + S'.fuel → EvD K (S.fu f) false q b (S'.fu (f + S'.fuel - S.fuel)) false) ∧ (∀ f, f + S'.fuel < S.fuel → Dr K C S q S' sl f)
theorem mulC {C a b : Nat} (h : a ≤ b) : C * a ≤ C * b := Nat.mul_le_mul_left _ h
section
variable {K : SrE} {C : Nat}
theorem SimF.lift {S S0 S1 S' : SS} {q q0 : SQ} {b b' : Bool} {sl sl0 sx t : Nat} (h : SimF K C S0 q0 b S1 sl0) (hF : FV K S') (hfu : S'.fuel = S1.fuel) (hfl : S1.fs.length ≤ S'.fs.length) (hts : S1.ts.length ≤ S'.ts.length) (hwk : S1.wk ≤ S'.wk) (hm : S0.wk ≤ S1.wk) (hmf : S1.fuel ≤ S0.fuel) (h0 : S0.fuel + t = S.fuel) (hw : S.wk + sl0 + sx ≤ S0.wk + sl) (hfs : S.fs.length ≤ S0.fs.length) (hcs : S0.cs.length = S.cs.length)
    (live : ∀ f g, EvD K (S0.fu f) false q0 b (S1.fu g) false → EvD K (S.fu (f + t)) false q b' (S'.fu g) false)
    (dry : ∀ f b2 S2 fs0, EvD K (S0.fu f) false q0 b2 S2 true → Dried K fs0 S2 → S.fs.length ≤ fs0.length → fs0.length ≤ S'.fs.length → ∃ b3 S3, EvD K (S.fu (f + t)) false q b3 S3 true ∧ Dried K fs0 S3 ∧ S3.ts.length ≤ S2.ts.length + C * sx ∧ S3.cs.length = S2.cs.length)
    (z : ∀ f, f < t → Dr K C S q S' sl f) : SimF K C S q b' S' sl := by
  obtain ⟨a1, a2, a3⟩ := h
  refine ⟨hF, fun f hf => ?_, fun f hf => ?_⟩
  · obtain ⟨f', rfl⟩ : ∃ f', f = f' + t := ⟨f - t, by omega⟩
    have := live _ _ (a2 f' (by omega))
    rw [show f' + t + S'.fuel - S.fuel = f' + S1.fuel - S0.fuel by omega]
    exact this
  · by_cases ht : f < t
    · exact z f ht
    · obtain ⟨f', rfl⟩ : ∃ f', f = f' + t := ⟨f - t, by omega⟩
      obtain ⟨b2, S2, fs0, c1, c2, c3, c4, c5, c6⟩ := a3 f' (by omega)
      obtain ⟨b3, S3, d1, d2, d3, d4⟩ := dry f' b2 S2 fs0 c1 c2 (by omega) (by omega)
      refine ⟨b3, S3, fs0, d1, d2, by omega, by omega, ?_, by rw [d4, c6, hcs]⟩
      have h1 : C * (S1.wk - S0.wk + sl0) + C * sx ≤ C * (S'.wk - S.wk + sl) := by rw [← Nat.mul_add]; exact mulC (by omega)
      omega
theorem SimF.seq {S S0 S1 Sx S' : SS} {q q1 q2 : SQ} {b1 b : Bool} {sl sl1 sx : Nat} (h : SimF K C S0 q1 b1 S1 sl1) (h' : SimF K C Sx q2 b S' 0) (hxf : Sx.fuel = S1.fuel) (hxs : Sx.fs.length = S1.fs.length) (hxw : Sx.wk = S1.wk) (hxt : Sx.ts.length = S1.ts.length) (hxc : Sx.cs.length = S1.cs.length) (g1 : Gr S0 S1) (g2 : Gr Sx S') (hm1 : S0.wk ≤ S1.wk) (hm2 : Sx.wk ≤ S'.wk)
    (h0 : S0.fuel = S.fuel) (hw : S.wk + sl1 + sx ≤ S0.wk + sl) (hw0 : S.wk ≤ S0.wk) (hfs : S.fs.length ≤ S0.fs.length) (hcs : S0.cs.length = S.cs.length)
    (live : ∀ f g b2 S2 d, EvD K (S0.fu f) false q1 b1 (S1.fu g) false → EvD K (Sx.fu g) false q2 b2 S2 d → EvD K (S.fu f) false q b2 S2 d)
    (dry : ∀ f b2 S2 fs0, EvD K (S0.fu f) false q1 b2 S2 true → Dried K fs0 S2 → S.fs.length ≤ fs0.length → fs0.length ≤ S'.fs.length → ∃ b3 S3, EvD K (S.fu f) false q b3 S3 true ∧ Dried K fs0 S3 ∧ S3.ts.length ≤ S2.ts.length + C * sx ∧ S3.cs.length = S2.cs.length) : SimF K C S q b S' sl := by
  obtain ⟨a1, a2, a3⟩ := h
  obtain ⟨e1, e2, e3⟩ := h'
  have k1 := g1.fuel
  have k2 := g2.fuel
  have k3 := g1.fs
  have k4 := g2.fs
  have k5 := g2.ts
  refine ⟨e1, fun f hf => ?_, fun f hf => ?_⟩
  · have := live f _ _ _ _ (a2 f (by omega)) (e2 _ (by omega))
    rw [show f + S'.fuel - S.fuel = f + S1.fuel - S0.fuel + S'.fuel - Sx.fuel by omega]
    exact this
  · by_cases h1 : f + S1.fuel < S0.fuel
    · obtain ⟨b2, S2, fs0, c1, c2, c3, c4, c5, c6⟩ := a3 f h1
      obtain ⟨b3, S3, d1, d2, d3, d4⟩ := dry f b2 S2 fs0 c1 c2 (by omega) (by omega)
      refine ⟨b3, S3, fs0, d1, d2, by omega, by omega, ?_, by rw [d4, c6, hcs]⟩
      have h1 : C * (S1.wk - S0.wk + sl1) + C * sx ≤ C * (S'.wk - S.wk + sl) := by rw [← Nat.mul_add]; exact mulC (by omega)
      omega
    · have l1 := a2 f (by omega)
      obtain ⟨b2, S2, fs0, c1, c2, c3, c4, c5, c6⟩ := e3 (f + S1.fuel - S0.fuel) (by omega)
      refine ⟨b2, S2, fs0, live f _ _ _ _ l1 c1, c2, by omega, c4, ?_, by rw [c6, hxc, g1.cs, hcs]⟩
      have h1 : C * (S'.wk - Sx.wk + 0) ≤ C * (S'.wk - S.wk + sl) := mulC (by omega)
      omega
end
theorem dr0 {K : SrE} {C : Nat} {S S' : SS} {at_ i j up sl : Nat} (hS : FV K S) (g : Gr S S') : ∀ f, f < 1 → Dr K C S (.take at_ i j up) S' sl f := fun f hf => by
  obtain rfl : f = 0 := by omega
  exact ⟨false, S.fu 0, S.fs, .takeDry (.inl rfl), ⟨hS.cs rfl, [], by simp, fun _ h => (by cases h)⟩, Nat.le_refl _, g.fs, Nat.le_trans g.ts (Nat.le_add_right _ _), rfl⟩
theorem simT {K : SrE} {C : Nat} {S S' : SS} {q : SQ} {b : Bool} {sl : Nat} (hF : FV K S') (hfu : S'.fuel = S.fuel) (hl : ∀ f, EvD K (S.fu f) false q b (S'.fu f) false) : SimF K C S q b S' sl := by
  refine ⟨hF, fun f _ => ?_, fun f hf => by omega⟩
  rw [show f + S'.fuel - S.fuel = f by omega]; exact hl f
theorem nolt {P : Nat → Prop} : ∀ f, f < 0 → P f := fun f h => by omega
theorem dry_row1 {K : SrE} {S S2 : SS} {f : Frm} {u at_ e : Nat} {es : List Nat} {b2 : Bool} (h : EvD K S false (.take f.kid at_ e u) b2 S2 true) : EvD K S false (.rowL f u at_ (e :: es)) b2 S2 true := by
  cases b2 with
  | true => exact .rowLYes h
  | false =>
    by_cases hl : f.left = 1
    · exact .rowLLast hl h
    · exact .rowLNo hl h (dry_rowL es)
theorem dry_alt1 {K : SrE} {S S2 : SS} {kid l i j up : Nat} {b2 : Bool} (h : EvD K S false (.take kid i j up) b2 S2 true) : EvD K S false (.alt kid (l + 1) i j up) b2 S2 true := by
  cases b2 with
  | true => exact .altYes h
  | false => exact .altNo h (dry_alt l _)
theorem dry_rnd1 {K : SrE} {fs0 : List Frm} {S S2 : SS} {f : Frm} {u at_ e : Nat} {es : List Nat} {x : Nd} {b2 : Bool} (hx : K.re[f.node]? = some x) (hb : ¬ brk x f at_ e) (hD : Dried K fs0 S2)
    (h : EvD K { S with cs := fgt (K.inn (f.node + 1) (K.bh f.node)) S.cs } false (.take (f.node + 1) at_ e u) b2 S2 true) : ∃ b3 S3, EvD K S false (.rndL f u at_ (e :: es)) b3 S3 true ∧ Dried K fs0 S3 ∧ S3.ts = S2.ts ∧ S3.cs.length = S2.cs.length := by
  cases b2 with
  | true => exact ⟨true, S2, .rndLYes hx hb h, hD, rfl, rfl⟩
  | false =>
    obtain ⟨cs, h1, h2⟩ := dry_rndL (u := u) (at_ := at_) hx es { S2 with cs := rst (K.inn (f.node + 1) (K.bh f.node)) (emW (K.inn (f.node + 1) (K.bh f.node)) S.cs) S2.cs }
    refine ⟨false, _, .rndLNo hx hb h h1, hD.cs rfl, rfl, h2.trans ?_⟩
    exact rst_len _ _ _
theorem dry_grp {K : SrE} {fs0 : List Frm} {S S2 S3 : SS} {at_ i j up u : Nat} {x : Nd} {b2 : Bool} (hx : K.re[at_]? = some x) (hf : 0 < S.fuel) (ho : x.op = 7) (hp : ({ S.tick with cs := fgt (K.inn (at_ + 1) (K.bh at_)) S.cs } : SS).push ⟨up, at_, 0, 0, i, j⟩ = (u, S2)) (h : EvD K S2 false (.take (at_ + 1) i j u) b2 S3 true) (hD : Dried K fs0 S3) : ∃ b3 S4, EvD K S false (.take at_ i j up) b3 S4 true ∧ Dried K fs0 S4 ∧ S4.ts = S3.ts ∧ S4.cs.length = S3.cs.length := by
  cases b2 with
  | true => exact ⟨true, S3, .takeGrpY hx hf ho hp h, hD, rfl, rfl⟩
  | false => exact ⟨false, _, .takeGrpN hx hf ho hp h, hD.cs rfl, rfl, rst_len _ _ _⟩
theorem dry_body {K : SrE} {fs0 : List Frm} {S S2 : SS} {f : Frm} {at_ : Nat} {x : Nd} {b2 : Bool} (hx : K.re[f.node]? = some x) (h4 : ¬ x.op = 4) (h6 : ¬ x.op = 6) (h : EvD K { S with cs := S.cs.set x.n.toNat ⟨f.fr, f.to⟩ } false (.next f.up at_) b2 S2 true) (hD : Dried K fs0 S2) : ∃ b3 S3, EvD K S false (.body f at_) b3 S3 true ∧ Dried K fs0 S3 ∧ S3.ts = S2.ts ∧ S3.cs.length = S2.cs.length := by
  cases b2 with
  | true => exact ⟨true, S2, .bodyGrpY hx h4 h6 h, hD, rfl, rfl⟩
  | false => exact ⟨false, _, .bodyGrpN hx h4 h6 h, hD.cs rfl, rfl, List.length_set ..⟩
theorem Ev.sim {K : SrE} {M : Nat} {S S' : SS} {q : SQ} {b : Bool} (h : Ev K S q b S') : S'.fs.length ≤ M → FV K S → LgM K S q → SimF K (K.cR * (M + 1)) S q b S' (slQ q) := by
  generalize hC : K.cR * (M + 1) = C
  induction h with
  | @takeNo S at_ i j up x hx hf ho hg =>
    intro hM hS hq
    refine ⟨hS.cs rfl, fun f hf' => ?_, fun f hf' => ?_⟩
    · have h1 : 0 < f := by show 0 < f; have : S.tick.fuel = S.fuel - 1 := rfl; omega
      have := EvD.takeNo (S := S.fu f) (i := i) (j := j) (up := up) hx h1 ho hg
      have e : (S.fu f).tick = S.tick.fu (f + S.tick.fuel - S.fuel) := by
        show ({ S with fuel := f - 1, wk := S.wk + 1 } : SS) = { S with fuel := f + (S.fuel - 1) - S.fuel, wk := S.wk + 1 }
        rw [show f + (S.fuel - 1) - S.fuel = f - 1 by omega]
      rw [← e]; exact this
    · have h0 : f = 0 := by have : S.tick.fuel = S.fuel - 1 := rfl; omega
      subst h0
      exact ⟨false, S.fu 0, S.fs, .takeDry (.inl rfl), ⟨hS.cs rfl, [], by simp, fun _ h => by cases h⟩, Nat.le_refl _, Nat.le_refl _, Nat.le_add_right _ _, rfl⟩
  | @takeYes S S' at_ i j up x b hx hf ho hg h ih =>
    intro hM hS hq
    have s := ih hM (hS.cs rfl) hq
    refine SimF.lift (t := 1) (sx := 0) s s.1 rfl (Nat.le_refl _) (Nat.le_refl _) (Nat.le_refl _) h.grow.1 h.mono.fuel (by show S.fuel - 1 + 1 = S.fuel; omega) (by show S.wk + 0 + 0 ≤ S.wk + 1 + 0; omega) (Nat.le_refl _) rfl (fun f g h => .takeYes (S := S.fu (f + 1)) hx (Nat.succ_pos _) ho hg h) (fun f b2 S2 fs0 h hD _ _ => ⟨b2, S2, .takeYes (S := S.fu (f + 1)) hx (Nat.succ_pos _) ho hg h, hD, by omega, rfl⟩) (dr0 hS ?_)
    exact tick_gr.trans h.mono
  | @takeAlt S S' at_ i j up x b hx hf ho h ih =>
    intro hM hS hq
    have s := ih hM (hS.cs rfl) hq
    refine SimF.lift (t := 1) (sx := 0) s s.1 rfl (Nat.le_refl _) (Nat.le_refl _) (Nat.le_refl _) h.grow.1 h.mono.fuel (by show S.fuel - 1 + 1 = S.fuel; omega) (by show S.wk + 0 + 0 ≤ S.wk + 1 + 0; omega) (Nat.le_refl _) rfl (fun f g h => .takeAlt (S := S.fu (f + 1)) hx (Nat.succ_pos _) ho h) (fun f b2 S2 fs0 h hD _ _ => ⟨b2, S2, .takeAlt (S := S.fu (f + 1)) hx (Nat.succ_pos _) ho h, hD, by omega, rfl⟩) (dr0 hS ?_)
    exact tick_gr.trans h.mono
  | @takeCat S S2 S' at_ i j up u x b hx hf ho hp h ih =>
    intro hM hS hq
    obtain ⟨f1, f2, f3, f4⟩ := push_fv hp (hS.cs rfl) ⟨x, hx, .inl ho⟩ hq
    have gp := push_gr hp
    have s := ih hM f1 f2
    refine SimF.lift (t := 1) (sx := 0) s s.1 rfl (Nat.le_refl _) (Nat.le_refl _) (Nat.le_refl _) h.grow.1 h.mono.fuel (by rw [f4]; show S.fuel - 1 + 1 = S.fuel; omega) (by rw [f3]; show S.wk + 0 + 0 ≤ S.wk + 1 + 0; omega) gp.fs gp.cs (fun f g h => .takeCat (S := S.fu (f + 1)) hx (Nat.succ_pos _) ho (push_fu hp) h) (fun f b2 S2 fs0 h hD _ _ => ⟨b2, S2, .takeCat (S := S.fu (f + 1)) hx (Nat.succ_pos _) ho (push_fu hp) h, hD, by omega, rfl⟩) (dr0 hS ?_)
    exact tick_gr.trans (gp.trans h.mono)
  | @takeRep S S2 S' at_ i j up u x b hx hf ho hp h ih =>
    intro hM hS hq
    obtain ⟨f1, f2, f3, f4⟩ := push_fv hp (hS.cs rfl) ⟨x, hx, .inr (.inl ho)⟩ hq
    have gp := push_gr hp
    have s := ih hM f1 f2
    refine SimF.lift (t := 1) (sx := 0) s s.1 rfl (Nat.le_refl _) (Nat.le_refl _) (Nat.le_refl _) h.grow.1 h.mono.fuel (by rw [f4]; show S.fuel - 1 + 1 = S.fuel; omega) (by rw [f3]; show S.wk + 0 + 0 ≤ S.wk + 1 + 0; omega) gp.fs gp.cs (fun f g h => .takeRep (S := S.fu (f + 1)) hx (Nat.succ_pos _) ho (push_fu hp) h) (fun f b2 S2 fs0 h hD _ _ => ⟨b2, S2, .takeRep (S := S.fu (f + 1)) hx (Nat.succ_pos _) ho (push_fu hp) h, hD, by omega, rfl⟩) (dr0 hS ?_)
    exact tick_gr.trans (gp.trans h.mono)
  | altNil => intro hM hS hq; exact simT hS rfl fun f => .altNil
  | @altYes S S' kid l i j up h ih =>
    intro hM hS hq
    have s := ih hM hS hq
    exact SimF.lift (t := 0) (sx := 0) s s.1 rfl (Nat.le_refl _) (Nat.le_refl _) (Nat.le_refl _) h.grow.1 h.mono.fuel rfl (by show S.wk + 0 + 0 ≤ S.wk + 0; omega) (Nat.le_refl _) rfl (fun f g h => .altYes h) (fun f b2 S2 fs0 h hD _ _ => ⟨b2, S2, dry_alt1 h, hD, by omega, rfl⟩) nolt
  | @altNo S S1 S' kid l i j up b h h' ih ih' =>
    intro hM hS hq
    have g2 := h'.mono
    have s := ih (Nat.le_trans g2.fs hM) hS hq
    have s2 := ih' hM s.1 (Nat.le_trans hq h.mono.fs)
    exact SimF.seq (sx := 0) s s2 rfl rfl rfl rfl rfl h.mono g2 h.grow.1 h'.grow.1 rfl (by show S.wk + 0 + 0 ≤ S.wk + 0; omega) (Nat.le_refl _) (Nat.le_refl _) rfl (fun f g b2 S2 d h h' => .altNo h h') (fun f b2 S2 fs0 h hD _ _ => ⟨b2, S2, dry_alt1 h, hD, by omega, rfl⟩)
  | nextZero => intro hM hS hq; exact simT hS rfl fun f => .nextZero
  | @nextMemo S k at_ h => intro hM hS hq; exact simT (hS.cs rfl) rfl fun f => .nextMemo (S := S.fu f) h
  | @nextGo S S2 k at_ f b hn hf h ih =>
    intro hM hS hq
    have hk := (List.getElem?_eq_some_iff.1 hf).1
    have hup := hS.ch k f hf
    have e1 : (S2.fail b ⟨k + 1, at_, (K.code S).1⟩).fs = S2.fs := by unfold SS.fail; split <;> rfl
    have e2 : (S2.fail b ⟨k + 1, at_, (K.code S).1⟩).ts = S2.ts := by unfold SS.fail; split <;> rfl
    obtain ⟨_, e3, e4⟩ := S2.fail_sz b ⟨k + 1, at_, (K.code S).1⟩
    have s := ih (by rw [← e1]; exact hM) (hS.cs rfl) ⟨by show f.up ≤ S.fs.length; omega, hS.vo f (List.mem_of_getElem? hf)⟩
    refine SimF.lift (t := 0) (sx := 0) s (s.1.cs e1) e4 (by rw [e1]; exact Nat.le_refl _) (by rw [e2]; exact Nat.le_refl _) (by rw [e3]; exact Nat.le_refl _) h.grow.1 h.mono.fuel rfl (by show S.wk + 1 + 0 ≤ S.wk + 1 + 0; omega) (Nat.le_refl _) rfl (fun f' g h => ?_) (fun f' b2 S3 fs0 h hD _ _ => ?_) nolt
    · have := EvD.nextGo (S := S.fu f') hn hf h
      rw [if_neg (by simp)] at this
      cases b <;> exact this
    · have := EvD.nextGo (S := S.fu f') hn hf h
      rw [if_pos rfl] at this
      exact ⟨b2, S3, this, hD, by omega, rfl⟩
  | @bodyCat S S' f at_ x b hx ho h ih =>
    intro hM hS hq
    have s := ih hM hS hq
    exact SimF.lift (t := 0) (sx := 0) s s.1 rfl (Nat.le_refl _) (Nat.le_refl _) (Nat.le_refl _) h.grow.1 h.mono.fuel rfl (by show S.wk + 1 + 0 ≤ S.wk + 1; omega) (Nat.le_refl _) rfl (fun f g h => .bodyCat hx ho h) (fun f b2 S2 fs0 h hD _ _ => ⟨b2, S2, .bodyCat hx ho h, hD, by omega, rfl⟩) nolt
  | @bodyRep S S' f at_ x b hx ho h ih =>
    intro hM hS hq
    have s := ih hM hS hq
    exact SimF.lift (t := 0) (sx := 0) s s.1 rfl (Nat.le_refl _) (Nat.le_refl _) (Nat.le_refl _) h.grow.1 h.mono.fuel rfl (by show S.wk + 1 + 0 ≤ S.wk + 1; omega) (Nat.le_refl _) rfl (fun f g h => .bodyRep hx ho h) (fun f b2 S2 fs0 h hD _ _ => ⟨b2, S2, .bodyRep hx ho h, hD, by omega, rfl⟩) nolt
  | rowZN hl he => intro hM hS hq; exact simT hS rfl fun f => .rowZN hl he
  | @rowZ S S' f at_ b hl he h ih =>
    intro hM hS hq
    have s := ih hM hS hq.1
    exact SimF.lift (t := 0) (sx := 0) s s.1 rfl (Nat.le_refl _) (Nat.le_refl _) (Nat.le_refl _) h.grow.1 h.mono.fuel rfl (by show S.wk + 0 + 0 ≤ S.wk + 1; omega) (Nat.le_refl _) rfl (fun f g h => .rowZ hl he h) (fun f b2 S2 fs0 h hD _ _ => ⟨b2, S2, .rowZ hl he h, hD, by omega, rfl⟩) nolt
  | @rowS S S1 S' f at_ u l b hl hp h ih =>
    intro hM hS hq
    obtain ⟨f1, f2, f3, f4⟩ := push_fv hp hS hq.2 hq.1
    have gp := push_gr hp
    have s := ih hM f1 ⟨Nat.le_trans hq.1 gp.fs, f2⟩
    exact SimF.lift (t := 0) (sx := 0) s s.1 rfl (Nat.le_refl _) (Nat.le_refl _) (Nat.le_refl _) h.grow.1 h.mono.fuel f4 (by rw [f3]; show S.wk + 0 + 0 ≤ S.wk + 1; omega) gp.fs gp.cs (fun f g h => .rowS (S := S.fu f) hl (push_fu hp) h) (fun f b2 S2 fs0 h hD _ _ => ⟨b2, S2, .rowS (S := S.fu f) hl (push_fu hp) h, hD, by omega, rfl⟩) nolt
  | rowLNil => intro hM hS hq; exact simT hS rfl fun f => .rowLNil
  | @rowLYes S S' f u at_ e es h ih =>
    intro hM hS hq
    have s := ih hM hS hq.2
    exact SimF.lift (t := 0) (sx := 0) s s.1 rfl (Nat.le_refl _) (Nat.le_refl _) (Nat.le_refl _) h.grow.1 h.mono.fuel rfl (by show S.wk + 0 + 0 ≤ S.wk + 0; omega) (Nat.le_refl _) rfl (fun f g h => .rowLYes h) (fun f b2 S2 fs0 h hD _ _ => ⟨b2, S2, dry_row1 h, hD, by omega, rfl⟩) nolt
  | @rowLLast S S' f u at_ e es hl h ih =>
    intro hM hS hq
    have s := ih hM hS hq.2
    exact SimF.lift (t := 0) (sx := 0) s s.1 rfl (Nat.le_refl _) (Nat.le_refl _) (Nat.le_refl _) h.grow.1 h.mono.fuel rfl (by show S.wk + 0 + 0 ≤ S.wk + 0; omega) (Nat.le_refl _) rfl (fun f g h => .rowLLast hl h) (fun f b2 S2 fs0 h hD _ _ => ⟨b2, S2, dry_row1 h, hD, by omega, rfl⟩) nolt
  | @rowLNo S S1 S' f u at_ e es b hl h h' ih ih' =>
    intro hM hS hq
    have g2 := h'.mono
    have s := ih (Nat.le_trans g2.fs hM) hS hq.2
    have s2 := ih' hM s.1 ⟨Nat.le_trans hq.1 h.mono.fs, Nat.le_trans hq.2 h.mono.fs⟩
    exact SimF.seq (sx := 0) s s2 rfl rfl rfl rfl rfl h.mono g2 h.grow.1 h'.grow.1 rfl (by show S.wk + 0 + 0 ≤ S.wk + 0; omega) (Nat.le_refl _) (Nat.le_refl _) rfl (fun f g b2 S2 d h h' => .rowLNo hl h h') (fun f b2 S2 fs0 h hD _ _ => ⟨b2, S2, dry_row1 h, hD, by omega, rfl⟩)
  | @takeGrpY S S2 S' at_ i j up u x hx hf ho hp h ih =>
    intro hM hS hq
    obtain ⟨f1, f2, f3, f4⟩ := push_fv hp (hS.cs rfl) ⟨x, hx, .inr (.inr ho)⟩ hq
    have gp := push_gr hp
    have hcs : S2.cs.length = S.cs.length := gp.cs.trans (fgt_len _ _)
    have s := ih hM f1 f2
    refine SimF.lift (t := 1) (sx := 0) s s.1 rfl (Nat.le_refl _) (Nat.le_refl _) (Nat.le_refl _) h.grow.1 h.mono.fuel (by rw [f4]; show S.fuel - 1 + 1 = S.fuel; omega) (by rw [f3]; show S.wk + 0 + 0 ≤ S.wk + 1 + 0; omega) gp.fs hcs (fun f g h => .takeGrpY (S := S.fu (f + 1)) hx (Nat.succ_pos _) ho (push_fu hp) h) (fun f b2 S3 fs0 h hD _ _ => ?_) (dr0 hS ?_)
    · obtain ⟨b3, S4, c1, c2, c3, c4⟩ := dry_grp (S := S.fu (f + 1)) hx (Nat.succ_pos _) ho (push_fu hp) h hD
      exact ⟨b3, S4, c1, c2, by rw [c3]; omega, c4⟩
    · exact tick_gr.trans ((cs_gr (fgt_len _ _)).trans (gp.trans h.mono))
  | @takeGrpN S S2 S' at_ i j up u x hx hf ho hp h ih =>
    intro hM hS hq
    obtain ⟨f1, f2, f3, f4⟩ := push_fv hp (hS.cs rfl) ⟨x, hx, .inr (.inr ho)⟩ hq
    have gp := push_gr hp
    have hcs : S2.cs.length = S.cs.length := gp.cs.trans (fgt_len _ _)
    have s := ih hM f1 f2
    refine SimF.lift (t := 1) (sx := 0) s (s.1.cs rfl) rfl (Nat.le_refl _) (Nat.le_refl _) (Nat.le_refl _) h.grow.1 h.mono.fuel (by rw [f4]; show S.fuel - 1 + 1 = S.fuel; omega) (by rw [f3]; show S.wk + 0 + 0 ≤ S.wk + 1 + 0; omega) gp.fs hcs (fun f g h => .takeGrpN (S := S.fu (f + 1)) hx (Nat.succ_pos _) ho (push_fu hp) h) (fun f b2 S3 fs0 h hD _ _ => ?_) (dr0 hS ?_)
    · obtain ⟨b3, S4, c1, c2, c3, c4⟩ := dry_grp (S := S.fu (f + 1)) hx (Nat.succ_pos _) ho (push_fu hp) h hD
      exact ⟨b3, S4, c1, c2, by rw [c3]; omega, c4⟩
    · exact tick_gr.trans ((cs_gr (fgt_len _ _)).trans (gp.trans (h.mono.trans (cs_gr (rst_len _ _ _)))))
  | @bodyGrpY S S' f at_ x hx h4 h6 h ih =>
    intro hM hS hq
    have s := ih hM (hS.cs rfl) hq.1
    refine SimF.lift (t := 0) (sx := 0) s s.1 rfl (Nat.le_refl _) (Nat.le_refl _) (Nat.le_refl _) h.grow.1 h.mono.fuel rfl (by show S.wk + 0 + 0 ≤ S.wk + 1; omega) (Nat.le_refl _) (List.length_set ..) (fun f' g h => .bodyGrpY (S := S.fu f') hx h4 h6 h) (fun f' b2 S3 fs0 h hD _ _ => ?_) nolt
    obtain ⟨b3, S4, c1, c2, c3, c4⟩ := dry_body (S := S.fu f') hx h4 h6 h hD
    exact ⟨b3, S4, c1, c2, by rw [c3]; omega, c4⟩
  | @bodyGrpN S S' f at_ x hx h4 h6 h ih =>
    intro hM hS hq
    have s := ih hM (hS.cs rfl) hq.1
    refine SimF.lift (t := 0) (sx := 0) s (s.1.cs rfl) rfl (Nat.le_refl _) (Nat.le_refl _) (Nat.le_refl _) h.grow.1 h.mono.fuel rfl (by show S.wk + 0 + 0 ≤ S.wk + 1; omega) (Nat.le_refl _) (List.length_set ..) (fun f' g h => .bodyGrpN (S := S.fu f') hx h4 h6 h) (fun f' b2 S3 fs0 h hD _ _ => ?_) nolt
    obtain ⟨b3, S4, c1, c2, c3, c4⟩ := dry_body (S := S.fu f') hx h4 h6 h hD
    exact ⟨b3, S4, c1, c2, by rw [c3]; omega, c4⟩
  | @rndYes S S1 S' f at_ u x hx hm hp h ih =>
    intro hM hS hq
    obtain ⟨f1, f2, f3, f4⟩ := push_fv hp hS hq.2 hq.1
    have gp := push_gr hp
    have hg := h.mono
    have s := ih hM f1 ⟨Nat.le_trans hq.1 gp.fs, f2⟩
    refine SimF.lift (t := 0) (sx := 1) s s.1 rfl (Nat.le_refl _) (Nat.le_refl _) (Nat.le_refl _) h.grow.1 hg.fuel f4 (by rw [f3]; exact Nat.le_refl _) gp.fs gp.cs (fun f' g h => .rndYes (S := S.fu f') hx hm (push_fu hp) h) (fun f' b2 S3 fs0 h hD hl hl2 => ?_) nolt
    obtain ⟨b3, S4, c1, c2, c3, c4⟩ := dry_rnd (S := S.fu f') hx hm (push_fu hp) h hD (Nat.le_trans hq.1 hl)
    refine ⟨b3, S4, c1, c2, Nat.le_trans c3 (Nat.add_le_add_left ?_ _), c4⟩
    rw [Nat.mul_one, ← hC]
    exact Nat.mul_le_mul_left _ (by have := hq.1; omega)
  | @rndEnd S S1 S2 S' f at_ u x b hx hm hp h he h' ih ih' =>
    intro hM hS hq
    obtain ⟨f1, f2, f3, f4⟩ := push_fv hp hS hq.2 hq.1
    have gp := push_gr hp
    have g1 := h.mono
    have g2 := h'.mono
    have s := ih (Nat.le_trans g2.fs hM) f1 ⟨Nat.le_trans hq.1 gp.fs, f2⟩
    have s2 := ih' hM s.1 (Nat.le_trans hq.1 (Nat.le_trans gp.fs g1.fs))
    refine SimF.seq (sx := 1) s s2 rfl rfl rfl rfl rfl g1 g2 h.grow.1 h'.grow.1 f4 (by rw [f3]; exact Nat.le_refl _) (by rw [f3]; exact Nat.le_refl _) gp.fs gp.cs (fun f' g b2 S3 d h h' => .rndEnd (S := S.fu f') hx hm (push_fu hp) h he h') (fun f' b2 S3 fs0 h hD hl hl2 => ?_)
    obtain ⟨b3, S4, c1, c2, c3, c4⟩ := dry_rnd (S := S.fu f') hx hm (push_fu hp) h hD (Nat.le_trans hq.1 hl)
    refine ⟨b3, S4, c1, c2, Nat.le_trans c3 (Nat.add_le_add_left ?_ _), c4⟩
    rw [Nat.mul_one, ← hC]
    exact Nat.mul_le_mul_left _ (by have := hq.1; omega)
  | @rndNo S S1 S' f at_ u x hx hm hp h he ih =>
    intro hM hS hq
    obtain ⟨f1, f2, f3, f4⟩ := push_fv hp hS hq.2 hq.1
    have gp := push_gr hp
    have hg := h.mono
    have s := ih hM f1 ⟨Nat.le_trans hq.1 gp.fs, f2⟩
    refine SimF.lift (t := 0) (sx := 1) s s.1 rfl (Nat.le_refl _) (Nat.le_refl _) (Nat.le_refl _) h.grow.1 hg.fuel f4 (by rw [f3]; exact Nat.le_refl _) gp.fs gp.cs (fun f' g h => .rndNo (S := S.fu f') hx hm (push_fu hp) h he) (fun f' b2 S3 fs0 h hD hl hl2 => ?_) nolt
    obtain ⟨b3, S4, c1, c2, c3, c4⟩ := dry_rnd (S := S.fu f') hx hm (push_fu hp) h hD (Nat.le_trans hq.1 hl)
    refine ⟨b3, S4, c1, c2, Nat.le_trans c3 (Nat.add_le_add_left ?_ _), c4⟩
    rw [Nat.mul_one, ← hC]
    exact Nat.mul_le_mul_left _ (by have := hq.1; omega)
  | @rnd0End S S' f at_ x b hx hm he h ih =>
    intro hM hS hq
    have s := ih hM hS hq.1
    exact SimF.lift (t := 0) (sx := 0) s s.1 rfl (Nat.le_refl _) (Nat.le_refl _) (Nat.le_refl _) h.grow.1 h.mono.fuel rfl (by show S.wk + 0 + 0 ≤ S.wk + 1; omega) (Nat.le_refl _) rfl (fun f' g h => .rnd0End hx hm he h) (fun f' b2 S2 fs0 h hD _ _ => ⟨b2, S2, .rnd0End hx hm he h, hD, by omega, rfl⟩) nolt
  | rnd0No hx hm he => intro hM hS hq; exact simT hS rfl fun f => .rnd0No hx hm he
  | rndLNil => intro hM hS hq; exact simT hS rfl fun f => .rndLNil
  | rndLBrk hx hb => intro hM hS hq; exact simT hS rfl fun f => .rndLBrk hx hb
  | @rndLYes S S' f u at_ e es x hx hb h ih =>
    intro hM hS hq
    have s := ih hM (hS.cs rfl) hq.2
    refine SimF.lift (t := 0) (sx := 0) s s.1 rfl (Nat.le_refl _) (Nat.le_refl _) (Nat.le_refl _) h.grow.1 h.mono.fuel rfl (by show S.wk + 0 + 0 ≤ S.wk + 0; omega) (Nat.le_refl _) (fgt_len _ _) (fun f' g h => .rndLYes (S := S.fu f') hx hb h) (fun f' b2 S3 fs0 h hD _ _ => ?_) nolt
    obtain ⟨b3, S4, c1, c2, c3, c4⟩ := dry_rnd1 (S := S.fu f') (es := es) hx hb hD h
    exact ⟨b3, S4, c1, c2, by rw [c3]; omega, c4⟩
  | @rndLNo S S1 S' f u at_ e es x b hx hb h h' ih ih' =>
    intro hM hS hq
    have g1 := h.mono
    have g2 := h'.mono
    have s := ih (Nat.le_trans g2.fs hM) (hS.cs rfl) hq.2
    have s2 := ih' hM (s.1.cs rfl) ⟨Nat.le_trans hq.1 g1.fs, Nat.le_trans hq.2 g1.fs⟩
    refine SimF.seq (sx := 0) s s2 rfl rfl rfl rfl (rst_len _ _ _) g1 g2 h.grow.1 h'.grow.1 rfl (by show S.wk + 0 + 0 ≤ S.wk + 0; omega) (Nat.le_refl _) (Nat.le_refl _) (fgt_len _ _) (fun f' g b2 S3 d h h' => .rndLNo (S := S.fu f') hx hb h h') (fun f' b2 S3 fs0 h hD _ _ => ?_)
    obtain ⟨b3, S4, c1, c2, c3, c4⟩ := dry_rnd1 (S := S.fu f') (es := es) hx hb hD h
    exact ⟨b3, S4, c1, c2, by rw [c3]; omega, c4⟩
end Go.HL.Kl.Mc
