/- The search with back-references finds what the mathematics says, within what the tally counts. Conditions: none. -/
import Derived.Test.YtloepfcndglmmaaDoorBS1Z
import Derived.Test.YtloepfcndglmmaaDoorBE1Z
import Derived.Test.YtloepfcndglmmaaDoorKQZ
namespace Go.HL.Kl.Mc
open Go Go.HL Go.HL.Kl AskE
structure SrE.ok (K : SrE) (N : Nat) : Prop where
  ref : ∀ x ∈ K.re, x.op = 8 → 1 ≤ x.n ∧ x.n.toNat ∈ K.R
  grp : ∀ x ∈ K.re, x.op = 7 → 1 ≤ x.n ∧ x.n.toNat ≤ N
  nd : (gl K.re).Nodup
/-! groups emptied, and restored -/
theorem rst_set {n : Nat} {v : Sp} : ∀ (l : List Nd) (W C : List Sp), n ∉ gl l → rst l W (C.set n v) = (rst l W C).set n v
  | [], _, _, _ => rfl
  | x :: l, W, C, h => by
    rw [gl_cons] at h
    unfold rst
    by_cases h7 : x.op = 7
    · rw [if_pos h7] at h
      have hne : x.n.toNat ≠ n := fun e => h (by simp [e])
      rw [if_pos h7, if_pos h7, List.set_comm _ _ hne.symm]
      exact rst_set l _ _ fun hm => h (by simp [hm])
    · rw [if_neg h7] at h
      rw [if_neg h7, if_neg h7]
      exact rst_set l _ _ fun hm => h (by simpa using hm)
theorem rst_emW : ∀ (l : List Nd) (cs : List Sp), (gl l).Nodup → (∀ i ∈ gl l, i < cs.length) → rst l (emW l cs) (fgt l cs) = cs
  | [], _, _, _ => rfl
  | x :: l, cs, hn, hr => by
    rw [gl_cons] at hn hr
    have e : fgt (x :: l) cs = fgt l (fg1 cs x) := rfl
    rw [e]
    unfold rst emW fg1
    by_cases h7 : x.op = 7
    · rw [if_pos h7] at hn hr
      rw [if_pos h7, if_pos h7, if_pos h7]
      have h1 : x.n.toNat ∉ gl l := fun hm => (List.nodup_append.1 hn).2.2 x.n.toNat (by simp) x.n.toNat hm rfl
      have h2 : (gl l).Nodup := (List.nodup_append.1 hn).2.1
      have hlt : x.n.toNat < cs.length := hr _ (by simp)
      simp only [List.tail_cons, List.headD_cons]
      rw [rst_set l _ _ h1, rst_emW l _ h2 (fun i hi => by rw [List.length_set]; exact hr i (by simp [hi])), List.set_set]
      apply List.ext_getElem?
      intro m
      by_cases em : x.n.toNat = m
      · subst em
        rw [List.getElem?_set_self hlt, List.getD_eq_getElem?_getD, List.getElem?_eq_getElem hlt]; rfl
      · rw [List.getElem?_set_ne em]
    · rw [if_neg h7] at hn hr
      rw [if_neg h7, if_neg h7, if_neg h7]
      exact rst_emW l cs (by simpa using hn) fun i hi => hr i (by simpa using hi)
theorem fgt_cons : ∀ (l : List Nd) (c : Caps), (∀ x ∈ l, x.op = 7 → 1 ≤ x.n) → fgt l (noS :: c) = noS :: emp l c
  | [], _, _ => rfl
  | x :: l, c, h => by
    have e : fgt (x :: l) (noS :: c) = fgt l (fg1 (noS :: c) x) := rfl
    have e2 : emp (x :: l) c = emp l (em1 c x) := rfl
    have e3 : fg1 (noS :: c) x = noS :: em1 c x := by
      unfold fg1 em1
      by_cases h7 : x.op = 7
      · have h1 := h x List.mem_cons_self h7
        rw [if_pos h7, if_pos h7]
        obtain ⟨m, hm⟩ : ∃ m, x.n.toNat = m + 1 := ⟨x.n.toNat - 1, by omega⟩
        rw [hm, List.set_cons_succ, Nat.add_sub_cancel]
      · rw [if_neg h7, if_neg h7]
    rw [e, e2, e3]
    exact fgt_cons l _ fun y hy => h y (List.mem_cons_of_mem _ hy)
section
variable {K : SrE} {N : Nat} {x : Nd} {ks : F} {at_ e0 : Nat}
theorem SrE.bh_eq (hp : Part K.re (.nd x ks .nil) at_ e0) : K.bh at_ = at_ + 1 + ks.size := by
  have h := foAt_eq hp
  have h1 : (F.nd x ks .nil).num = 1 := by simp [F.num]
  rw [h1] at h
  unfold SrE.bh
  rw [h]
  simp only [F.size]; omega
theorem SrE.inn_eq (hp : Part K.re (.nd x ks .nil) at_ e0) : K.inn (at_ + 1) (K.bh at_) = ks.flat := by
  rw [SrE.bh_eq hp]
  obtain ⟨_, h2, _⟩ := hp.head
  unfold SrE.inn
  rw [h2.flat, show at_ + 1 + ks.size - (at_ + 1) = ks.flat.length by rw [F.flat_size]; omega, List.take_left]
theorem SrE.ok.sub (hK : K.ok N) {g : F} {k e : Nat} (hp : Part K.re g k e) : (gl g.flat).Nodup ∧ ∀ i ∈ gl g.flat, i < N + 1 := by
  have h := hK.nd
  have e1 : K.re = K.re.take k ++ (g.flat ++ K.re.drop e) := by rw [← hp.flat, List.take_append_drop]
  rw [e1, gl_app, gl_app] at h
  refine ⟨(List.nodup_append.1 (List.nodup_append.1 h).2.1).1, fun i hi => ?_⟩
  obtain ⟨y, hy, rfl⟩ := List.mem_map.1 hi
  rw [List.mem_filter] at hy
  have := (hK.grp y (hp.mem hy.1) (by simpa using hy.2)).2
  omega
theorem SrE.ok.emp (hK : K.ok N) (hp : Part K.re (.nd x ks .nil) at_ e0) (c : Caps) : fgt (K.inn (at_ + 1) (K.bh at_)) (noS :: c) = noS :: emp ks.flat c := by
  rw [SrE.inn_eq hp]
  exact fgt_cons _ _ fun y hy h7 => (hK.grp y (hp.head.2.1.mem hy) h7).1
theorem SrE.ok.rst (hK : K.ok N) (hp : Part K.re (.nd x ks .nil) at_ e0) {c : Caps} (hc : c.length = N) : rst (K.inn (at_ + 1) (K.bh at_)) (emW (K.inn (at_ + 1) (K.bh at_)) (noS :: c)) (fgt (K.inn (at_ + 1) (K.bh at_)) (noS :: c)) = noS :: c := by
  rw [SrE.inn_eq hp]
  obtain ⟨h1, h2⟩ := hK.sub hp.head.2.1
  exact rst_emW _ _ h1 fun i hi => by have := h2 i hi; simp; omega
end
/-! single nodes -/
theorem good_LF {K : SrE} {N : Nat} {x : Nd} {ks : F} {i j : Nat} {c : Caps} (hij : i ≤ j) (hj : j ≤ K.w.length) (hc : CapOk K N c) (hr : x.op = 8 → 1 ≤ x.n) (ho : x.op = 1 ∨ x.op = 2 ∨ x.op = 3 ∨ x.op = 8) :
    (K.good x (noS :: c) i j → LF1 K.w x ks i j c = [c] ∧ goodT K.w.length x c i j) ∧ (¬ K.good x (noS :: c) i j → LF1 K.w x ks i j c = []) := by
  rcases ho with h | h | h | h
  · rw [LF1_1 h]
    constructor
    · rintro (⟨_, a, b⟩ | ⟨a, _⟩ | ⟨a, _⟩ | ⟨a, _⟩)
      · exact ⟨if_pos ⟨a, b⟩, .inl ⟨h, a⟩⟩
      all_goals omega
    · intro hn; exact if_neg fun hh => hn (.inl ⟨h, hh⟩)
  · rw [LF1_2 h]
    constructor
    · rintro (⟨a, _⟩ | ⟨_, a⟩ | ⟨a, _⟩ | ⟨a, _⟩)
      · omega
      · exact ⟨if_pos ⟨by omega, a⟩, .inr (.inl ⟨h, by omega, a⟩)⟩
      all_goals omega
    · intro hn; exact if_neg fun hh => hn (.inr (.inl ⟨h, hh.2⟩))
  · rw [LF1_3 h]
    constructor
    · rintro (⟨a, _⟩ | ⟨a, _⟩ | ⟨_, a⟩ | ⟨a, _⟩)
      · omega
      · omega
      · exact ⟨if_pos ⟨a, by omega⟩, .inr (.inr (.inl ⟨h, a, by omega⟩))⟩
      · omega
    · intro hn; exact if_neg fun hh => hn (.inr (.inr (.inl ⟨h, hh.1⟩)))
  · have h1 := hr h
    obtain ⟨m, hm⟩ : ∃ m, x.n.toNat = m + 1 := ⟨x.n.toNat - 1, by omega⟩
    have hg : (noS :: c).getD x.n.toNat noS = c.getD (x.n.toNat - 1) noS := by rw [hm]; simp
    rw [LF1_8 h]
    generalize hs : c.getD (x.n.toNat - 1) noS = s at hg
    have hsv : s = noS ∨ (0 ≤ s.fr ∧ s.fr ≤ s.to ∧ s.to ≤ K.w.length) := by
      rw [List.getD_eq_getElem?_getD] at hs
      cases hq : c[x.n.toNat - 1]? with
      | none => rw [hq] at hs; exact .inl hs.symm
      | some v =>
        rw [hq] at hs
        have hs : v = s := hs
        subst hs
        exact hc.ok v (List.mem_of_getElem? hq)
    have hlen : ∀ (a b : Nat), a ≤ b → b ≤ K.w.length → ((K.w.drop a).take (b - a)).length = b - a := fun a b h1 h2 => by rw [List.length_take, List.length_drop]; omega
    constructor
    · rintro (⟨a, _⟩ | ⟨a, _⟩ | ⟨a, _⟩ | ⟨_, a, b⟩)
      · omega
      · omega
      · omega
      · rw [hg] at a b
        obtain ⟨v1, v2, v3⟩ := hsv.resolve_left a
        have hl := congrArg List.length b
        rw [hlen i j hij hj, show (s.to - s.fr).toNat = s.to.toNat - s.fr.toNat by omega, hlen _ _ (by omega) (by omega)] at hl
        have e1 : s.to - s.fr = (j : Int) - i := by omega
        refine ⟨if_pos ?_, .inr (.inr (.inr ⟨h, by rw [hs]; exact v1, by rw [hs]; exact e1⟩))⟩
        unfold sameAt
        rw [Bool.and_eq_true, decide_eq_true_eq, decide_eq_true_eq]
        refine ⟨⟨v1, e1⟩, ?_⟩
        rw [show j - i = (s.to - s.fr).toNat by omega]
        rw [show (s.to - s.fr).toNat = j - i by omega] at b ⊢
        exact b
    · intro hn
      refine if_neg fun hh => hn (.inr (.inr (.inr ⟨h, ?_⟩)))
      unfold sameAt at hh
      rw [Bool.and_eq_true, decide_eq_true_eq, decide_eq_true_eq] at hh
      obtain ⟨⟨a1, a2⟩, a3⟩ := hh
      rw [hg]
      refine ⟨fun e => by rw [e] at a1; exact absurd a1 (by decide), ?_⟩
      rw [show (s.to - s.fr).toNat = j - i by omega]
      exact a3
/-! small steps -/
section
variable {K : SrE} {N : Nat} {S : SS}
theorem tick_ext : Ext S S.tick := ⟨⟨[], by simp [SS.tick]⟩, ⟨[], by simp [SS.tick]⟩, fun _ h => h⟩
theorem Inv.same {S1 : SS} (h : Inv K N S) (h1 : S1.fs = S.fs) (h2 : S1.ts = S.ts) (h3 : S1.F = S.F) : Inv K N S1 := ⟨by rw [h1]; exact h.ch, by rw [h2]; exact h.nd, by rw [h1, h2, h3]; exact h.memo⟩
theorem Ext.same {S1 : SS} (h1 : S1.fs = S.fs) (h2 : S1.ts = S.ts) (h3 : S1.F = S.F) : Ext S S1 := ⟨⟨[], by simp [h1]⟩, ⟨[], by simp [h2]⟩, fun p hp => by rw [h3]; exact hp⟩
theorem Res.lift {S1 S' : SS} {b : Bool} {sem1 sem : Option Caps} {k1 k : Nat} {Φ1 Φ : SS → Nat} (h : Res K N S1 S' b sem1 k1 Φ1) (he : Ext S S1) (hs : sem1 = sem) (hcs : S1.cs = S.cs) (hw : S1.wk + k1 + Φ1 S1 ≤ S.wk + k + Φ S) (hΦ : ∀ S', Φ S' ≤ Φ1 S') : Res K N S S' b sem k Φ := by
  refine ⟨h.inv, he.trans h.ext, fun hb => ?_, fun hb => ?_⟩
  · obtain ⟨r, r1, r2, r3, r4⟩ := h.yes hb
    exact ⟨r, by rw [← hs]; exact r1, r2, r3, by omega⟩
  · obtain ⟨r1, r2, r3⟩ := h.no hb
    have := hΦ S'
    exact ⟨by rw [← hs]; exact r1, r2.trans hcs, by omega⟩
end
def capK (x : Nd) (had : Nat) : Nat := if x.mx < 0 then min had (max x.mn.toNat 1) else had
theorem satK_cap {x : Nd} {had : Nat} : satK x (capK x had) = capK x (had + 1) := by
  unfold satK capK
  split <;> omega
/-! what is to be shown, by kind -/
def NodeTgt (K : SrE) (N : Nat) (x : Nd) (ks : F) (i j : Nat) (c : Caps) (Z : List Caps) (k : Nat) : Prop := ∀ (at_ e0 : Nat) (S : SS) (up : Nat) (Φ : SS → Nat), Part K.re (.nd x ks .nil) at_ e0 → i ≤ j → j ≤ K.w.length → CapOk K N c → Inv K N S → S.cs = noS :: c → up ≤ S.fs.length → Anti Φ → NextOK K N S up j Z Φ → k + Φ S ≤ S.fuel →
  ∃ b S', Ev K S (.take at_ i j up) b S' ∧ Res K N S S' b ((LF1 K.w x ks i j c).findSome? (K.kont S.fs up j)) k Φ
def AltTgt (K : SrE) (N : Nat) (g : F) (i j : Nat) (c : Caps) (Z : List Caps) (k : Nat) : Prop := ∀ (kid e0 : Nat) (S : SS) (up : Nat) (Φ : SS → Nat), Part K.re g kid e0 → i ≤ j → j ≤ K.w.length → CapOk K N c → Inv K N S → S.cs = noS :: c → up ≤ S.fs.length → Anti Φ → NextOK K N S up j Z Φ → k + Φ S ≤ S.fuel →
  ∃ b S', Ev K S (.alt kid g.num i j up) b S' ∧ Res K N S S' b ((LF K.w g true i j c).findSome? (K.kont S.fs up j)) k Φ
def RowTgt (K : SrE) (N : Nat) (g : F) (i j : Nat) (c : Caps) (Z : List Caps) (k : Nat) : Prop := ∀ (f : Frm) (x : Nd) (e0 : Nat) (S : SS) (Φ : SS → Nat), K.re[f.node]? = some x → x.op = 4 → Part K.re g f.kid e0 → f.left = g.num → f.to = j → i ≤ j → j ≤ K.w.length → CapOk K N c → Inv K N S → S.cs = noS :: c → f.up ≤ S.fs.length → Anti Φ → NextOK K N S f.up j Z Φ → k + Φ S ≤ S.fuel →
  ∃ b S', Ev K S (.row f i) b S' ∧ Res K N S S' b ((LF K.w g false i j c).findSome? (K.kont S.fs f.up j)) k Φ
def RndTgt (K : SrE) (N : Nat) (x y : Nd) (js : F) (had i j : Nat) (c : Caps) (Z : List Caps) (k : Nat) : Prop := ∀ (f : Frm) (e0 : Nat) (S : SS) (Φ : SS → Nat), Part K.re (.nd x (.nd y js .nil) .nil) f.node e0 → x.op = 6 → f.kid = capK x had → f.to = j → i ≤ j → j ≤ K.w.length → CapOk K N c → Inv K N S → S.cs = noS :: c → f.up ≤ S.fs.length → Anti Φ → NextOK K N S f.up j Z Φ → k + Φ S ≤ S.fuel →
  ∃ b S', Ev K S (.rnd f i) b S' ∧ Res K N S S' b ((RLf x (K.kidsB f.node) j f.kid i c).findSome? (K.kont S.fs f.up j)) k Φ
section
variable {K : SrE} {N : Nat}
theorem sr_leaf (hK : K.ok N) {x : Nd} {ks : F} {i j : Nat} {c : Caps} {Z : List Caps} {k : Nat} (ho : x.op = 1 ∨ x.op = 2 ∨ x.op = 3 ∨ x.op = 8) (hz : goodT K.w.length x c i j → c ∈ Z) (hk : 1 ≤ k) : NodeTgt K N x ks i j c Z k := by
  intro at_ e0 S up Φ hp hij hj hc hI hcs hup hΦ hN hfu
  have hx := hp.head.1
  have xT : Ext S S.tick := tick_ext
  have IT : Inv K N S.tick := hI.same rfl rfl rfl
  have hΦT := hΦ _ _ xT
  have hf : 0 < S.fuel := by omega
  have htf : S.tick.fuel = S.fuel - 1 := rfl
  have htw : S.tick.wk = S.wk + 1 := rfl
  obtain ⟨g1, g2⟩ := good_LF (K := K) (ks := ks) hij hj hc (fun h8 => (hK.ref x (List.mem_of_getElem? hx) h8).1) ho
  by_cases hg : K.good x (noS :: c) i j
  · obtain ⟨l1, l2⟩ := g1 hg
    obtain ⟨b, S', ev, res⟩ := hN S.tick c xT IT (hz l2) hc hcs (by omega)
    exact ⟨b, S', .takeYes hx hf ho (by rw [hcs]; exact hg) ev, res.lift xT (by rw [l1, fs_one]; rfl) rfl (by omega) fun _ => Nat.le_refl _⟩
  · exact ⟨false, S.tick, .takeNo hx hf ho (by rw [hcs]; exact hg), IT, xT, fun h => (by cases h), fun _ => ⟨by rw [g2 hg]; rfl, rfl, by omega⟩⟩
theorem sr_cat (hK : K.ok N) {x : Nd} {ks : F} {i j : Nat} {c : Caps} {Z : List Caps} {k k0 : Nat} (ho : x.op = 4) (ih : RowTgt K N ks i j c Z k0) (hk : k0 + 2 ≤ k) : NodeTgt K N x ks i j c Z k := by
  intro at_ e0 S up Φ hp hij hj hc hI hcs hup hΦ hN hfu
  obtain ⟨hx, hpk, _⟩ := hp.head
  have xT : Ext S S.tick := tick_ext
  have IT : Inv K N S.tick := hI.same rfl rfl rfl
  have hΦT := hΦ _ _ xT
  have hf : 0 < S.fuel := by omega
  have htf : S.tick.fuel = S.fuel - 1 := rfl
  have htw : S.tick.wk = S.wk + 1 := rfl
  have hkn : x.kids.toNat = ks.num := by have h : (ks.num : Int) = x.kids := hp.wf.2.1; omega
  generalize hpu : S.tick.push ⟨up, at_, at_ + 1, x.kids.toNat, i, j⟩ = pr
  obtain ⟨u, S2⟩ := pr
  obtain ⟨xp, Ip, q, rfl, hf0⟩ := push_spec hpu IT hup
  obtain ⟨_, p2, p3, p4, _, _⟩ := SS.push_sz hpu
  have x2 : Ext S S2 := xT.trans xp
  have hΦ2 := hΦ _ _ x2
  have hfo : foAt K.re (at_ + 1) x.kids.toNat = ks := by rw [hkn]; exact foAt_eq hpk
  have hsem : ∀ S3, Ext S2 S3 → Inv K N S3 → K.kont S3.fs (q + 1) i c = (LF K.w ks false i j c).findSome? (K.kont S3.fs up j) := fun S3 x3 I3 => by
    rw [SrE.kont_succ I3.ch (x3.get hf0) hx, if_pos ho]
    dsimp only
    rw [hfo]
  have hNx := frame_ok (N := N) hK.ref hΦ (es := [i]) (L := fun _ => [c]) (kR := fun _ _ => k0) hf0 (fun e he c1 hc1 S3 x3 I3 hk3 hcs3 hfu3 => by
    obtain rfl := List.mem_singleton.1 he
    obtain rfl := List.mem_singleton.1 hc1
    obtain ⟨b, S', ev, res⟩ := ih ⟨up, at_, at_ + 1, x.kids.toNat, e, j⟩ x _ S3 Φ hx ho hpk hkn rfl hij hj hk3 I3 hcs3 (Nat.le_trans hup (x2.trans x3).le) hΦ (hN.mono (x2.trans x3) fun _ h => h) hfu3
    exact ⟨b, S', .bodyCat hx ho ev, res.lift .refl (hsem S3 x3 I3).symm rfl (Nat.le_refl _) fun _ => Nat.le_refl _⟩) (List.mem_singleton_self i)
  have hpl := pend_le (K := K) (u := q + 1) (es := [i]) (L := fun _ => [c]) (kR := fun _ _ => k0) (S := S2)
  simp only [List.map_cons, List.map_nil, List.sum_cons, List.sum_nil] at hpl
  obtain ⟨b, S', ev, res⟩ := hNx S2 c .refl Ip (List.mem_singleton_self c) hc (p4.trans hcs) (by first | omega | (dsimp only; omega))
  exact ⟨b, S', .takeCat hx hf ho hpu ev, res.lift x2 (by rw [hsem S2 .refl Ip, LF1_4 ho, hI.kont Ip x2 hup]) p4 (by first | omega | (dsimp only; omega)) fun S' => Nat.le_add_right _ _⟩
theorem sr_rep (hK : K.ok N) {x y : Nd} {js : F} {i j : Nat} {c : Caps} {Z : List Caps} {k k0 : Nat} (ho : x.op = 6) (ih : RndTgt K N x y js 0 i j c Z k0) (hk : k0 + 2 ≤ k) : NodeTgt K N x (.nd y js .nil) i j c Z k := by
  intro at_ e0 S up Φ hp hij hj hc hI hcs hup hΦ hN hfu
  obtain ⟨hx, hpk, _⟩ := hp.head
  have xT : Ext S S.tick := tick_ext
  have IT : Inv K N S.tick := hI.same rfl rfl rfl
  have hΦT := hΦ _ _ xT
  have hf : 0 < S.fuel := by omega
  have htf : S.tick.fuel = S.fuel - 1 := rfl
  have htw : S.tick.wk = S.wk + 1 := rfl
  generalize hpu : S.tick.push ⟨up, at_, 0, 0, 0, j⟩ = pr
  obtain ⟨u, S2⟩ := pr
  obtain ⟨xp, Ip, q, rfl, hf0⟩ := push_spec hpu IT hup
  obtain ⟨_, p2, p3, p4, _, _⟩ := SS.push_sz hpu
  have x2 : Ext S S2 := xT.trans xp
  have hΦ2 := hΦ _ _ x2
  have hcap : 0 = capK x 0 := by unfold capK; split <;> omega
  have hsem : ∀ S3, Ext S2 S3 → Inv K N S3 → K.kont S3.fs (q + 1) i c = (RLf x (K.kidsB at_) j 0 i c).findSome? (K.kont S3.fs up j) := fun S3 x3 I3 => by
    rw [SrE.kont_succ I3.ch (x3.get hf0) hx, if_neg (by omega), if_pos ho]
  have hNx := frame_ok (N := N) hK.ref hΦ (es := [i]) (L := fun _ => [c]) (kR := fun _ _ => k0) hf0 (fun e he c1 hc1 S3 x3 I3 hk3 hcs3 hfu3 => by
    obtain rfl := List.mem_singleton.1 he
    obtain rfl := List.mem_singleton.1 hc1
    obtain ⟨b, S', ev, res⟩ := ih ⟨up, at_, 0, 0, 0, j⟩ _ S3 Φ hp ho hcap rfl hij hj hk3 I3 hcs3 (Nat.le_trans hup (x2.trans x3).le) hΦ (hN.mono (x2.trans x3) fun _ h => h) hfu3
    exact ⟨b, S', .bodyRep hx ho ev, res.lift .refl (hsem S3 x3 I3).symm rfl (Nat.le_refl _) fun _ => Nat.le_refl _⟩) (List.mem_singleton_self i)
  have hpl := pend_le (K := K) (u := q + 1) (es := [i]) (L := fun _ => [c]) (kR := fun _ _ => k0) (S := S2)
  simp only [List.map_cons, List.map_nil, List.sum_cons, List.sum_nil] at hpl
  obtain ⟨b, S', ev, res⟩ := hNx S2 c .refl Ip (List.mem_singleton_self c) hc (p4.trans hcs) (by first | omega | (dsimp only; omega))
  have hfo : foAt K.re (at_ + 1) 1 = .nd y js .nil := by have h := foAt_eq hpk; rwa [show (F.nd y js .nil).num = 1 by simp [F.num]] at h
  exact ⟨b, S', .takeRep hx hf ho hpu ev, res.lift x2 (by
    rw [hsem S2 .refl Ip, LF1_6 ho, hI.kont Ip x2 hup]
    have : K.kidsB at_ = fun p e c => LF K.w (.nd y js .nil) false p e (emp (F.nd y js .nil).flat c) := by funext p e c; unfold SrE.kidsB; rw [hfo]
    rw [this]) p4 (by first | omega | (dsimp only; omega)) fun S' => Nat.le_add_right _ _⟩
end
end Go.HL.Kl.Mc
namespace Go.HL.Kl.Mc
open Go Go.HL Go.HL.Kl AskE
theorem sum_ones {α : Type} : ∀ (l : List α), (l.map fun _ => 0 + 1).sum = l.length
  | [] => rfl
  | a :: l => by
    have := sum_ones l
    simp only [List.map_cons, List.sum_cons, List.length_cons] at this ⊢; omega
section
variable {K : SrE} {N : Nat}
theorem Res.seq {S S1 S2 : SS} {b : Bool} {sem1 sem2 : Option Caps} {k1 k2 : Nat} {Φ : SS → Nat} (h : Res K N S S1 false sem1 k1 Φ) (h' : Res K N S1 S2 b sem2 k2 Φ) : Res K N S S2 b sem2 (k1 + k2) Φ := by
  obtain ⟨_, r2, r3⟩ := h.no rfl
  refine ⟨h'.inv, h.ext.trans h'.ext, fun hb => ?_, fun hb => ?_⟩
  · obtain ⟨r, q1, q2, q3, q4⟩ := h'.yes hb
    exact ⟨r, q1, q2, q3, by omega⟩
  · obtain ⟨q1, q2, q3⟩ := h'.no hb
    exact ⟨q1, q2.trans r2, by omega⟩
theorem Res.sem {S S' : SS} {b : Bool} {sem sem' : Option Caps} {k : Nat} {Φ : SS → Nat} (h : Res K N S S' b sem k Φ) (e : sem = sem') : Res K N S S' b sem' k Φ := e ▸ h
theorem sr_grp (hK : K.ok N) {x y : Nd} {js : F} {i j : Nat} {c : Caps} {Z L : List Caps} {k k0 : Nat} (ho : x.op = 7) (ih : NodeTgt K N y js i j (emp (F.nd y js .nil).flat c) L k0) (hz : ∀ d ∈ L, d.set (x.n.toNat - 1) ⟨i, j⟩ ∈ Z) (hk : k0 + L.length + 1 ≤ k) : NodeTgt K N x (.nd y js .nil) i j c Z k := by
  intro at_ e0 S up Φ hp hij hj hc hI hcs hup hΦ hN hfu
  obtain ⟨hx, hpk, _⟩ := hp.head
  have hgr := hK.grp x (List.mem_of_getElem? hx) ho
  obtain ⟨m, hm⟩ : ∃ m, x.n.toNat = m + 1 := ⟨x.n.toNat - 1, by omega⟩
  have hm1 : x.n.toNat - 1 = m := by omega
  have hf : 0 < S.fuel := by omega
  have htf : S.tick.fuel = S.fuel - 1 := rfl
  have htw : S.tick.wk = S.wk + 1 := rfl
  have x1 : Ext S ({ S.tick with cs := fgt (K.inn (at_ + 1) (K.bh at_)) S.cs } : SS) := Ext.same rfl rfl rfl
  have I1 : Inv K N ({ S.tick with cs := fgt (K.inn (at_ + 1) (K.bh at_)) S.cs } : SS) := hI.same rfl rfl rfl
  generalize hpu : ({ S.tick with cs := fgt (K.inn (at_ + 1) (K.bh at_)) S.cs } : SS).push ⟨up, at_, 0, 0, i, j⟩ = pr
  obtain ⟨u, S2⟩ := pr
  obtain ⟨xp, Ip, q, rfl, hf0⟩ := push_spec hpu I1 hup
  obtain ⟨_, p2, p3, p4, _, _⟩ := SS.push_sz hpu
  have p2 : S2.wk = S.wk + 1 := p2
  have p3 : S2.fuel = S.fuel - 1 := p3
  have x2 : Ext S S2 := x1.trans xp
  have hΦ2 := hΦ _ _ x2
  have p4 : S2.cs = fgt (K.inn (at_ + 1) (K.bh at_)) S.cs := p4
  have hcs2 : S2.cs = noS :: emp (F.nd y js .nil).flat c := by rw [p4, hcs]; exact hK.emp hp c
  have hce := hc.emp (F.nd y js .nil).flat
  have hsem : ∀ S3, Ext S2 S3 → Inv K N S3 → ∀ e c1, K.kont S3.fs (q + 1) e c1 = K.kont S3.fs up e (c1.set m ⟨i, j⟩) := fun S3 x3 I3 e c1 => by
    rw [SrE.kont_succ I3.ch (x3.get hf0) hx, if_neg (by omega), if_neg (by omega), hm1]
  have hNx : NextOK K N S2 (q + 1) j L (fun S => Φ S + pend K (q + 1) [j] (fun _ => L) (fun _ _ => 0) S) := frame_ok (N := N) hK.ref hΦ (es := [j]) (L := fun _ => L) (kR := fun _ _ => 0) hf0 (fun e he c1 hc1 S3 x3 I3 hk3 hcs3 hfu3 => by
    obtain rfl := List.mem_singleton.1 he
    have hS4 : S3.cs.set x.n.toNat ⟨i, e⟩ = noS :: c1.set m ⟨i, e⟩ := by rw [hcs3, hm]; rfl
    have x4 : Ext S3 ({ S3 with cs := S3.cs.set x.n.toNat ⟨i, e⟩ } : SS) := Ext.same rfl rfl rfl
    have hΦ4 := hΦ _ _ x4
    have hz1 := hz c1 hc1
    rw [hm1] at hz1
    obtain ⟨b, S', ev, res⟩ := hN ({ S3 with cs := S3.cs.set x.n.toNat ⟨i, e⟩ } : SS) (c1.set m ⟨i, e⟩) ((x2.trans x3).trans x4) (I3.same rfl rfl rfl) hz1 (hk3.set hij hj m) hS4 (by show _ ≤ S3.fuel; omega)
    have hwk4 : ({ S3 with cs := S3.cs.set x.n.toNat ⟨i, e⟩ } : SS).wk = S3.wk := rfl
    cases b with
    | true =>
      refine ⟨true, S', .bodyGrpY hx (by omega) (by omega) ev, res.inv, x4.trans res.ext, fun _ => ?_, fun h => (by cases h)⟩
      obtain ⟨r, r1, r2, r3, r4⟩ := res.yes rfl
      exact ⟨r, by rw [hsem S3 x3 I3]; exact r1, r2, r3, by omega⟩
    | false =>
      obtain ⟨r1, r2, r3⟩ := res.no rfl
      refine ⟨false, _, .bodyGrpN hx (by omega) (by omega) ev, res.inv.same rfl rfl rfl, x4.trans (res.ext.trans (Ext.same rfl rfl rfl)), fun h => (by cases h), fun _ => ⟨by rw [hsem S3 x3 I3]; exact r1, ?_, ?_⟩⟩
      · show S'.cs.set x.n.toNat (S3.cs.getD x.n.toNat noS) = S3.cs
        rw [r2]
        show (S3.cs.set x.n.toNat ⟨i, e⟩).set x.n.toNat _ = _
        rw [List.set_set, hcs3, hm]
        simp only [List.getD_cons_succ, List.set_cons_succ]
        congr 1
        have hml : m < c1.length := by rw [hk3.len]; omega
        apply List.ext_getElem?
        intro n
        by_cases en : m = n
        · subst en
          rw [List.getElem?_set_self hml, List.getD_eq_getElem?_getD, List.getElem?_eq_getElem hml]; rfl
        · rw [List.getElem?_set_ne en]
      · have h5 := hΦ S' _ (Ext.same (S1 := { S' with cs := S'.cs.set x.n.toNat (S3.cs.getD x.n.toNat noS) }) rfl rfl rfl)
        show S'.wk + _ ≤ _
        omega) (List.mem_singleton_self j)
  have hpl := pend_le (K := K) (u := q + 1) (es := [j]) (L := fun _ => L) (kR := fun _ _ => 0) (S := S2)
  simp only [List.map_cons, List.map_nil, List.sum_cons, List.sum_nil] at hpl
  have hso := sum_ones L
  rw [hso] at hpl
  have hq := (List.getElem?_eq_some_iff.1 hf0).1
  have hA : Anti (fun S => Φ S + pend K (q + 1) [j] (fun _ => L) (fun _ _ => 0) S) := fun S S' h => Nat.add_le_add (hΦ _ _ h) (pend_anti _ _ h)
  obtain ⟨b, S', ev, res⟩ := ih (at_ + 1) _ S2 (q + 1) _ hpk hij hj hce Ip hcs2 (by omega) hA hNx (by omega)
  have hse : (LF1 K.w y js i j (emp (F.nd y js .nil).flat c)).findSome? (K.kont S2.fs (q + 1) j) = (LF1 K.w x (.nd y js .nil) i j c).findSome? (K.kont S.fs up j) := by
    rw [LF1_7 ho, fs_map, LF_one, if_pos hij, hm1, ← hI.kont Ip x2 hup]
    congr 1
    funext d
    exact hsem S2 .refl Ip j d
  cases b with
  | true =>
    refine ⟨true, S', .takeGrpY hx hf ho hpu ev, res.inv, x2.trans res.ext, fun _ => ?_, fun h => (by cases h)⟩
    obtain ⟨r, r1, r2, r3, r4⟩ := res.yes rfl
    exact ⟨r, by rw [← hse]; exact r1, r2, r3, by omega⟩
  | false =>
    obtain ⟨r1, r2, r3⟩ := res.no rfl
    refine ⟨false, _, .takeGrpN hx hf ho hpu ev, res.inv.same rfl rfl rfl, x2.trans (res.ext.trans (Ext.same rfl rfl rfl)), fun h => (by cases h), fun _ => ⟨by rw [← hse]; exact r1, ?_, ?_⟩⟩
    · show rst _ _ S'.cs = S.cs
      rw [r2, p4, hcs]
      exact hK.rst hp hc.len
    · have h5 := hΦ S' _ (Ext.same (S1 := { S' with cs := rst (K.inn (at_ + 1) (K.bh at_)) (emW (K.inn (at_ + 1) (K.bh at_)) S.cs) S'.cs }) rfl rfl rfl)
      show S'.wk + _ ≤ _
      omega
theorem sr_altC {x : Nd} {ks : F} {i j : Nat} {c : Caps} {Z : List Caps} {k k0 : Nat} (ho : x.op = 5) (ih : AltTgt K N ks i j c Z k0) (hk : k0 + 1 ≤ k) : NodeTgt K N x ks i j c Z k := by
  intro at_ e0 S up Φ hp hij hj hc hI hcs hup hΦ hN hfu
  obtain ⟨hx, hpk, _⟩ := hp.head
  have xT : Ext S S.tick := tick_ext
  have IT : Inv K N S.tick := hI.same rfl rfl rfl
  have hΦT := hΦ _ _ xT
  have hf : 0 < S.fuel := by omega
  have htf : S.tick.fuel = S.fuel - 1 := rfl
  have htw : S.tick.wk = S.wk + 1 := rfl
  have hkn : x.kids.toNat = ks.num := by have h : (ks.num : Int) = x.kids := hp.wf.2.1; omega
  obtain ⟨b, S', ev, res⟩ := ih (at_ + 1) _ S.tick up Φ hpk hij hj hc IT hcs hup hΦ (hN.mono xT fun _ h => h) (by omega)
  exact ⟨b, S', .takeAlt hx hf ho (by rw [hkn]; exact ev), res.lift xT (by rw [LF1_5 ho]; rfl) rfl (by omega) fun _ => Nat.le_refl _⟩
theorem sr_altNil {i j : Nat} {c : Caps} {Z : List Caps} {k : Nat} : AltTgt K N .nil i j c Z k := by
  intro kid e0 S up Φ hp hij hj hc hI hcs hup hΦ hN hfu
  exact ⟨false, S, .altNil, hI, .refl, fun h => (by cases h), fun _ => ⟨by rw [LF_nilT]; rfl, rfl, by omega⟩⟩
theorem sr_altCons {y : Nd} {js r : F} {i j : Nat} {c : Caps} {Z Z1 Z2 : List Caps} {k k1 k2 : Nat} (h1 : NodeTgt K N y js i j c Z1 k1) (h2 : AltTgt K N r i j c Z2 k2) (hz1 : ∀ d ∈ Z1, d ∈ Z) (hz2 : ∀ d ∈ Z2, d ∈ Z) (hk : k1 + k2 ≤ k) : AltTgt K N (.nd y js r) i j c Z k := by
  intro kid e0 S up Φ hp hij hj hc hI hcs hup hΦ hN hfu
  obtain ⟨hy, hpk, hpr⟩ := hp.head
  have hnum : (F.nd y js r).num = r.num + 1 := by simp only [F.num]; try omega
  obtain ⟨b, S1, ev, res⟩ := h1 kid _ S up Φ hp.one hij hj hc hI hcs hup hΦ (hN.mono .refl hz1) (by omega)
  rw [hnum]
  cases b with
  | true =>
    refine ⟨true, S1, .altYes ev, res.inv, res.ext, fun _ => ?_, fun h => (by cases h)⟩
    obtain ⟨r', r1, r2, r3, r4⟩ := res.yes rfl
    exact ⟨r', by rw [LF_alt, List.findSome?_append, r1]; rfl, r2, r3, by omega⟩
  | false =>
    obtain ⟨r1, r2, r3⟩ := res.no rfl
    have hgr := ev.grow
    obtain ⟨b, S', ev2, res2⟩ := h2 _ _ S1 up Φ hpr hij hj hc res.inv (r2.trans hcs) (Nat.le_trans hup res.ext.le) hΦ (hN.mono res.ext hz2) (by omega)
    refine ⟨b, S', .altNo ev (by rw [SrE.bh_eq hp.one]; exact ev2), ((res.seq res2).sem (sem' := (LF K.w (.nd y js r) true i j c).findSome? (K.kont S.fs up j)) ?_).lift .refl rfl rfl (by omega) fun _ => Nat.le_refl _⟩
    rw [LF_alt, List.findSome?_append, r1, hI.kont res.inv res.ext hup]; rfl
theorem sr_rowNil {i j : Nat} {c : Caps} {Z : List Caps} {k : Nat} (hz : i = j → c ∈ Z) : RowTgt K N .nil i j c Z k := by
  intro f x e0 S Φ hx ho hp hl ht hij hj hc hI hcs hup hΦ hN hfu
  have hl0 : f.left = 0 := hl
  by_cases he : i = j
  · obtain ⟨b, S', ev, res⟩ := hN S c .refl hI (hz he) hc hcs (by omega)
    exact ⟨b, S', .rowZ hl0 (by omega) (by rw [he]; exact ev), res.lift .refl (by rw [LF_nilF, if_pos he, fs_one]) rfl (by omega) fun _ => Nat.le_refl _⟩
  · exact ⟨false, S, .rowZN hl0 (by omega), hI, .refl, fun h => (by cases h), fun _ => ⟨by rw [LF_nilF, if_neg he]; rfl, rfl, by omega⟩⟩
theorem rowL_ok {f : Frm} {y : Nd} {js : F} {e1 i : Nat} {c : Caps} {S0 : SS} {u : Nat} {Φ : SS → Nat} (hΦ : Anti Φ) (hp : Part K.re (.nd y js .nil) f.kid e1) (hl1 : f.left ≠ 1) {es : List Nat} {L : Nat → List Caps} {kN : Nat → Nat} (h1 : ∀ e, e ∈ es → NodeTgt K N y js i e c (L e) (kN e))
    (hb : ∀ e ∈ es, i ≤ e ∧ e ≤ K.w.length) (hN : ∀ e ∈ es, NextOK K N S0 u e (L e) Φ) (hc : CapOk K N c) : ∀ (l : List Nat), (∀ e ∈ l, e ∈ es) → ∀ S, Ext S0 S → Inv K N S → S.cs = noS :: c → u ≤ S.fs.length → (l.map kN).sum + Φ S ≤ S.fuel →
    ∃ b S', Ev K S (.rowL f u i l) b S' ∧ Res K N S S' b (l.findSome? fun e => (LF1 K.w y js i e c).findSome? (K.kont S.fs u e)) (l.map kN).sum Φ
  | [], _, S, hx, hI, hcs, hu, hfu => ⟨false, S, .rowLNil, hI, .refl, fun h => (by cases h), fun _ => ⟨rfl, rfl, by simp⟩⟩
  | e :: l, hm, S, hx, hI, hcs, hu, hfu => by
    have he := hm e List.mem_cons_self
    obtain ⟨b1, b2⟩ := hb e he
    simp only [List.map_cons, List.sum_cons] at hfu ⊢
    obtain ⟨b, S1, ev, res⟩ := h1 e he f.kid _ S u Φ hp b1 b2 hc hI hcs hu hΦ ((hN e he).mono hx fun _ h => h) (by omega)
    cases b with
    | true =>
      refine ⟨true, S1, .rowLYes ev, res.inv, res.ext, fun _ => ?_, fun h => (by cases h)⟩
      obtain ⟨r', r1, r2, r3, r4⟩ := res.yes rfl
      exact ⟨r', by rw [List.findSome?_cons, r1], r2, r3, by omega⟩
    | false =>
      obtain ⟨r1, r2, r3⟩ := res.no rfl
      have hgr := ev.grow
      obtain ⟨b, S', ev2, res2⟩ := rowL_ok hΦ hp hl1 h1 hb hN hc l (fun e h => hm e (List.mem_cons_of_mem _ h)) S1 (hx.trans res.ext) res.inv (r2.trans hcs) (Nat.le_trans hu res.ext.le) (by omega)
      refine ⟨b, S', .rowLNo hl1 ev ev2, (res.seq res2).sem ?_⟩
      rw [List.findSome?_cons, r1, hI.kont res.inv res.ext hu]
theorem sr_rowCons (hK : K.ok N) {y : Nd} {js r : F} {i j : Nat} {c : Caps} {Z : List Caps} {k : Nat} {es : List Nat} {L : Nat → List Caps} {kN : Nat → Nat} {R : Nat → Caps → List Caps} {kR : Nat → Caps → Nat} (hes : es = if r.num = 0 then [j] else ends i j)
    (h1 : ∀ e, e ∈ es → NodeTgt K N y js i e c (L e) (kN e)) (h2 : ∀ e, e ∈ es → ∀ c1, c1 ∈ L e → RowTgt K N r e j c1 (R e c1) (kR e c1)) (hz : ∀ e, e ∈ es → ∀ c1, c1 ∈ L e → ∀ d, d ∈ R e c1 → d ∈ Z) (hk : sumW es L kN kR ≤ k) : RowTgt K N (.nd y js r) i j c Z k := by
  intro f x e0 S Φ hx ho hp hl ht hij hj hc hI hcs hup hΦ hN hfu
  obtain ⟨hy, hpk, hpr⟩ := hp.head
  have hnum : (F.nd y js r).num = r.num + 1 := by simp only [F.num]; try omega
  have hbh := SrE.bh_eq hp.one
  have hin : ∀ e ∈ es, i ≤ e ∧ e ≤ j := fun e he => by
    rw [hes] at he
    split at he
    · obtain rfl := List.mem_singleton.1 he; omega
    · exact mem_ends.1 he
  generalize hpu : S.push { f with kid := K.bh f.kid, left := r.num, fr := 0 } = pr
  obtain ⟨u, S2⟩ := pr
  obtain ⟨x2, Ip, q, rfl, hf0⟩ := push_spec hpu hI hup
  obtain ⟨_, p2, p3, p4, _, _⟩ := SS.push_sz hpu
  have hΦ2 := hΦ _ _ x2
  have hfo : foAt K.re (K.bh f.kid) r.num = r := by rw [hbh]; exact foAt_eq hpr
  have hsem : ∀ S3, Ext S2 S3 → Inv K N S3 → ∀ e c1, K.kont S3.fs (q + 1) e c1 = (LF K.w r false e j c1).findSome? (K.kont S3.fs f.up j) := fun S3 x3 I3 e c1 => by
    rw [SrE.kont_succ I3.ch (x3.get hf0) hx, if_pos ho]
    dsimp only
    rw [hfo, ht]
  have hNx : ∀ e, e ∈ es → NextOK K N S2 (q + 1) e (L e) (fun S => Φ S + pend K (q + 1) es L kR S) := fun e he => frame_ok (N := N) hK.ref hΦ hf0 (fun e he c1 hc1 S3 x3 I3 hk3 hcs3 hfu3 => by
    obtain ⟨i1, i2⟩ := hin e he
    obtain ⟨b, S', ev, res⟩ := h2 e he c1 hc1 { f with kid := K.bh f.kid, left := r.num, fr := 0 } x _ S3 Φ hx ho (by rw [hbh]; exact hpr) rfl ht i2 hj hk3 I3 hcs3 (Nat.le_trans hup (x2.trans x3).le) hΦ (hN.mono (x2.trans x3) (hz e he c1 hc1)) hfu3
    exact ⟨b, S', .bodyCat hx ho ev, res.lift .refl (hsem S3 x3 I3 e c1).symm rfl (Nat.le_refl _) fun _ => Nat.le_refl _⟩) he
  have hA : Anti (fun S => Φ S + pend K (q + 1) es L kR S) := fun S S' h => Nat.add_le_add (hΦ _ _ h) (pend_anti _ _ h)
  have hps := pend_sumW (K := K) (u := q + 1) (kN := kN) (L := L) (kR := kR) (S := S2) (es := es)
  have hq := (List.getElem?_eq_some_iff.1 hf0).1
  have hall : (LF K.w (.nd y js r) false i j c).findSome? (K.kont S.fs f.up j) = (ends i j).findSome? fun e => (LF1 K.w y js i e c).findSome? (K.kont S2.fs (q + 1) e) := by
    rw [LF_cat, fs_flat]
    congr 1
    funext e
    rw [fs_flat]
    congr 1
    funext c1
    rw [hsem S2 .refl Ip, hI.kont Ip x2 hup]
  have hcs2 : S2.cs = noS :: c := p4.trans hcs
  by_cases hr : r.num = 0
  · rw [if_pos hr] at hes
    subst hes
    have hr0 : r = .nil := F.num_nil hr
    simp only [List.map_cons, List.map_nil, List.sum_cons, List.sum_nil] at hps
    obtain ⟨b, S', ev, res⟩ := h1 j (List.mem_singleton_self j) f.kid _ S2 (q + 1) _ hp.one hij hj hc Ip hcs2 (by omega) hA (hNx j (List.mem_singleton_self j)) (by omega)
    have hends : ends i j = j :: down i (j - i) := by unfold ends; rw [show j + 1 - i = (j - i) + 1 by omega, down, show i + (j - i) = j by omega]
    have hrest : ∀ e, e ≠ j → (LF1 K.w y js i e c).findSome? (K.kont S2.fs (q + 1) e) = none := fun e he => by
      rw [List.findSome?_eq_none_iff]
      intro c1 _
      rw [hsem S2 .refl Ip, hr0, LF_nilF, if_neg he]; rfl
    have hrl : (down i (j - i)).findSome? (fun e => (LF1 K.w y js i e c).findSome? (K.kont S2.fs (q + 1) e)) = none := by
      rw [List.findSome?_eq_none_iff]
      intro e he
      have := mem_down.1 he
      exact hrest e (by omega)
    have hse : (LF1 K.w y js i j c).findSome? (K.kont S2.fs (q + 1) j) = (LF K.w (.nd y js r) false i j c).findSome? (K.kont S.fs f.up j) := by
      rw [hall, hends, List.findSome?_cons, hrl]
      split
      · assumption
      · assumption
    have res' := res.lift (S := S) (sem := (LF K.w (.nd y js r) false i j c).findSome? (K.kont S.fs f.up j)) (k := k) (Φ := Φ) x2 hse p4 (by omega) fun S' => Nat.le_add_right _ _
    have hl1 : f.left = 1 := by omega
    have hlp : f.left = r.num + 1 := by omega
    cases b with
    | true => exact ⟨true, S', .rowS hlp hpu (by rw [ht, hends]; exact .rowLYes ev), res'⟩
    | false => exact ⟨false, S', .rowS hlp hpu (by rw [ht, hends]; exact .rowLLast hl1 ev), res'⟩
  · rw [if_neg hr] at hes
    subst hes
    obtain ⟨b, S', ev, res⟩ := rowL_ok hA hp.one (by omega : f.left ≠ 1) h1 (fun e he => ⟨(hin e he).1, by have := (hin e he).2; omega⟩) hNx hc (ends i j) (fun _ h => h) S2 .refl Ip hcs2 (by omega) (by omega)
    exact ⟨b, S', .rowS (by omega : f.left = r.num + 1) hpu (by rw [ht]; exact ev), res.lift x2 hall.symm p4 (by omega) fun S' => Nat.le_add_right _ _⟩
end
end Go.HL.Kl.Mc
namespace Go.HL.Kl.Mc
open Go Go.HL Go.HL.Kl AskE
theorem fs_congr {α : Type} {f g : α → Option Caps} : ∀ {l : List α}, (∀ a ∈ l, f a = g a) → l.findSome? f = l.findSome? g
  | [], _ => rfl
  | a :: l, h => by rw [List.findSome?_cons, List.findSome?_cons, h a List.mem_cons_self, fs_congr fun b hb => h b (List.mem_cons_of_mem _ hb)]
theorem RLf_sat {x : Nd} {B : Nat → Nat → Caps → List Caps} {q kid p : Nat} {c : Caps} (hx : x.mx = -1 ∨ 0 ≤ x.mx) : RLf x B q (satK x kid) p c = RLf x B q (kid + 1) p c := by
  unfold satK
  by_cases hm : x.mx < 0
  · rw [if_pos hm]
    rcases Nat.lt_or_ge (max x.mn.toNat 1) (kid + 1) with h | h
    · rw [Nat.min_eq_right (by omega)]
      exact RLf_cap (by omega) _ _ _ _ _ (Nat.le_refl _) (Nat.le_refl _) (by omega)
    · rw [Nat.min_eq_left h]
  · rw [if_neg hm]
section
variable {K : SrE} {N : Nat}
def brkH (x : Nd) (had i e : Nat) : Prop := e = i ∧ x.mn ≤ (had : Int) ∧ 0 < had
instance {x : Nd} {had i e : Nat} : Decidable (brkH x had i e) := by unfold brkH; infer_instance
theorem rndL_ok (hK : K.ok N) {f : Frm} {x y : Nd} {js : F} {e1 i j had : Nat} {c : Caps} {S0 : SS} {u : Nat} {Φ : SS → Nat} (hΦ : Anti Φ) (hp : Part K.re (.nd x (.nd y js .nil) .nil) f.node e1) (hbrk : ∀ e, brk x f i e ↔ brkH x had i e) {es : List Nat} {L : Nat → List Caps} {kN : Nat → Nat}
    (hes : ∀ e, i ≤ e → e ≤ j → ¬ brkH x had i e → e ∈ es) (h1 : ∀ e, e ∈ es → NodeTgt K N y js i e (emp (F.nd y js .nil).flat c) (L e) (kN e)) (hj : j ≤ K.w.length) (hN : ∀ e ∈ es, NextOK K N S0 u e (L e) Φ) (hc : CapOk K N c) :
    ∀ (k : Nat), i + k ≤ j + 1 → ∀ S, Ext S0 S → Inv K N S → S.cs = noS :: c → u ≤ S.fs.length → (((down i k).filter fun e => decide (¬ brkH x had i e)).map kN).sum + Φ S ≤ S.fuel →
    ∃ b S', Ev K S (.rndL f u i (down i k)) b S' ∧ Res K N S S' b ((down i k).findSome? fun e => if brkH x had i e then none else (LF1 K.w y js i e (emp (F.nd y js .nil).flat c)).findSome? (K.kont S.fs u e)) (((down i k).filter fun e => decide (¬ brkH x had i e)).map kN).sum Φ
  | 0, _, S, hx, hI, hcs, hu, hfu => ⟨false, S, .rndLNil, hI, .refl, fun h => (by cases h), fun _ => ⟨rfl, rfl, by simp [down]⟩⟩
  | k + 1, hkj, S, hx, hI, hcs, hu, hfu => by
    have hxx := hp.head.1
    rw [down] at hfu ⊢
    by_cases hB : brkH x had i (i + k)
    · have hk0 : k = 0 := by have := hB.1; omega
      subst hk0; refine ⟨false, S, .rndLBrk hxx ((hbrk _).2 hB), hI, .refl, fun h => (by cases h), fun _ => ⟨?_, rfl, ?_⟩⟩
      · rw [List.findSome?_cons, if_pos hB]; rfl
      · omega
    · have hfil : (((i + k) :: down i k).filter fun e => decide (¬ brkH x had i e)) = (i + k) :: (down i k).filter fun e => decide (¬ brkH x had i e) := by rw [List.filter_cons, if_pos (by simpa using hB)]
      rw [hfil, List.map_cons, List.sum_cons] at hfu ⊢
      have he := hes (i + k) (by omega) (by omega) hB
      have x1 : Ext S ({ S with cs := fgt (K.inn (f.node + 1) (K.bh f.node)) S.cs } : SS) := Ext.same rfl rfl rfl
      have hcs1 : fgt (K.inn (f.node + 1) (K.bh f.node)) S.cs = noS :: emp (F.nd y js .nil).flat c := by rw [hcs]; exact hK.emp hp c
      have hΦ1 := hΦ _ _ x1
      obtain ⟨b, S1, ev, res⟩ := h1 (i + k) he (f.node + 1) _ ({ S with cs := fgt (K.inn (f.node + 1) (K.bh f.node)) S.cs } : SS) u Φ hp.head.2.1 (by omega) (by omega) (hc.emp _) (hI.same rfl rfl rfl) hcs1 hu hΦ ((hN (i + k) he).mono (hx.trans x1) fun _ h => h) (by show _ ≤ S.fuel; omega)
      have hw1 : ({ S with cs := fgt (K.inn (f.node + 1) (K.bh f.node)) S.cs } : SS).wk = S.wk := rfl
      have hf1 : ({ S with cs := fgt (K.inn (f.node + 1) (K.bh f.node)) S.cs } : SS).fuel = S.fuel := rfl
      have hfs1 : ({ S with cs := fgt (K.inn (f.node + 1) (K.bh f.node)) S.cs } : SS).fs = S.fs := rfl
      cases b with
      | true =>
        refine ⟨true, S1, .rndLYes hxx (fun h => hB ((hbrk _).1 h)) ev, res.inv, x1.trans res.ext, fun _ => ?_, fun h => (by cases h)⟩
        obtain ⟨r', r1, r2, r3, r4⟩ := res.yes rfl
        rw [hfs1] at r1
        exact ⟨r', by rw [List.findSome?_cons, if_neg hB, r1], r2, r3, by omega⟩
      | false =>
        obtain ⟨r1, r2, r3⟩ := res.no rfl
        rw [hfs1] at r1
        have hgr := ev.grow
        have x2 : Ext S1 ({ S1 with cs := rst (K.inn (f.node + 1) (K.bh f.node)) (emW (K.inn (f.node + 1) (K.bh f.node)) S.cs) S1.cs } : SS) := Ext.same rfl rfl rfl
        have hΦ2 := hΦ _ _ x2
        have r2 : S1.cs = fgt (K.inn (f.node + 1) (K.bh f.node)) S.cs := r2
        have hcs2 : rst (K.inn (f.node + 1) (K.bh f.node)) (emW (K.inn (f.node + 1) (K.bh f.node)) S.cs) S1.cs = noS :: c := by rw [r2, hcs]; exact hK.rst hp hc.len
        have xx := x1.trans (res.ext.trans x2)
        have resA : Res K N S ({ S1 with cs := rst (K.inn (f.node + 1) (K.bh f.node)) (emW (K.inn (f.node + 1) (K.bh f.node)) S.cs) S1.cs } : SS) false none (kN (i + k)) Φ :=
          ⟨res.inv.same rfl rfl rfl, xx, fun h => (by cases h), fun _ => ⟨rfl, hcs2.trans hcs.symm, by show S1.wk + _ ≤ _; omega⟩⟩
        have hf2 : ({ S1 with cs := rst (K.inn (f.node + 1) (K.bh f.node)) (emW (K.inn (f.node + 1) (K.bh f.node)) S.cs) S1.cs } : SS).fuel = S1.fuel := rfl
        obtain ⟨b, S', ev2, res2⟩ := rndL_ok hK hΦ hp hbrk hes h1 hj hN hc k (by omega) _ (hx.trans xx) (res.inv.same rfl rfl rfl) hcs2 (Nat.le_trans hu xx.le) (by omega)
        refine ⟨b, S', .rndLNo hxx (fun h => hB ((hbrk _).1 h)) ev ev2, (resA.seq res2).sem ?_⟩
        rw [List.findSome?_cons, if_neg hB, r1]
        dsimp only
        refine fs_congr fun e _ => ?_
        split
        · rfl
        · rw [hI.kont resA.inv xx hu]
theorem sr_rnd (hK : K.ok N) {x y : Nd} {js : F} {had i j : Nat} {c : Caps} {Z : List Caps} {k : Nat} {es : List Nat} {L : Nat → List Caps} {kN : Nat → Nat} {R : Nat → Caps → List Caps} {kR : Nat → Caps → Nat} (hes : es = rEs x had i j)
    (h1 : ∀ e, e ∈ es → NodeTgt K N y js i e (emp (F.nd y js .nil).flat c) (L e) (kN e)) (h2 : ∀ e, e ∈ es → ∀ c1, c1 ∈ L e → RndTgt K N x y js (had + 1) e j c1 (R e c1) (kR e c1)) (hz : ∀ e, e ∈ es → ∀ c1, c1 ∈ L e → ∀ d, d ∈ R e c1 → d ∈ Z) (hz2 : i = j → x.mn ≤ (had : Int) → c ∈ Z) (hk : sumW es L kN kR ≤ k) : RndTgt K N x y js had i j c Z k := by
  intro f e0 S Φ hp ho hkid ht hij hj hc hI hcs hup hΦ hN hfu
  obtain ⟨hx, hpk, _⟩ := hp.head
  have hrf := rep_flds hp.wf.1 ho
  have hmx : x.mx = -1 ∨ 0 ≤ x.mx := by omega
  have hM : (x.mx < 0 ∨ (f.kid : Int) < x.mx) ↔ (x.mx = -1 ∨ (had : Int) < x.mx) := by rw [hkid]; unfold capK; split <;> omega
  have hM2 : (x.mx = -1 ∨ (f.kid : Int) < x.mx) ↔ (x.mx = -1 ∨ (had : Int) < x.mx) := by rw [hkid]; unfold capK; split <;> omega
  have hmn : x.mn ≤ (f.kid : Int) ↔ x.mn ≤ (had : Int) := by rw [hkid]; unfold capK; split <;> omega
  have h0k : 0 < f.kid ↔ 0 < had := by rw [hkid]; unfold capK; split <;> omega
  have hbrk : ∀ e, brk x f i e ↔ brkH x had i e := fun e => by unfold brk brkH; rw [hmn, h0k]
  have hfo : foAt K.re (f.node + 1) 1 = .nd y js .nil := by have h := foAt_eq hpk; rwa [show (F.nd y js .nil).num = 1 by simp [F.num]] at h
  have hkb : ∀ e, i ≤ e → K.kidsB f.node i e c = LF1 K.w y js i e (emp (F.nd y js .nil).flat c) := fun e he => by
    unfold SrE.kidsB
    rw [hfo, LF_one, if_pos he]
  -- the end: none more
  have tail : ∀ S2, Ext S S2 → Inv K N S2 → S2.cs = noS :: c → Φ S2 ≤ S2.fuel → ∀ (he : i = f.to ∧ x.mn ≤ (f.kid : Int)), ∃ b S', Ev K S2 (.next f.up i) b S' ∧ Res K N S2 S' b (K.kont S2.fs f.up j c) 0 Φ := fun S2 x2 I2 hcs2 hfu2 he => by
    have hij2 : i = j := by omega
    rw [hij2]
    exact hN S2 c x2 I2 (hz2 hij2 (hmn.1 he.2)) hc hcs2 hfu2
  by_cases hm : x.mx = -1 ∨ (had : Int) < x.mx
  · generalize hpu : S.push { f with kid := satK x f.kid } = pr
    obtain ⟨u, S2⟩ := pr
    obtain ⟨x2, Ip, q, rfl, hf0⟩ := push_spec hpu hI hup
    obtain ⟨_, p2, p3, p4, _, _⟩ := SS.push_sz hpu
    have hΦ2 := hΦ _ _ x2
    have hes2 : es = (ends i j).filter (fun e => decide (¬ brkH x had i e)) := by rw [hes]; unfold rEs; rw [if_pos hm]; rfl
    have hin : ∀ e ∈ es, i ≤ e ∧ e ≤ j := fun e he => by
      rw [hes2, List.mem_filter] at he
      exact mem_ends.1 he.1
    have hsem : ∀ S3, Ext S2 S3 → Inv K N S3 → ∀ e c1, K.kont S3.fs (q + 1) e c1 = (RLf x (K.kidsB f.node) j (satK x f.kid) e c1).findSome? (K.kont S3.fs f.up j) := fun S3 x3 I3 e c1 => by
      rw [SrE.kont_succ I3.ch (x3.get hf0) hx, if_neg (by omega), if_pos ho]
      dsimp only
      rw [ht]
    have hNx : ∀ e, e ∈ es → NextOK K N S2 (q + 1) e (L e) (fun S => Φ S + pend K (q + 1) es L kR S) := fun e he => frame_ok (N := N) hK.ref hΦ hf0 (fun e he c1 hc1 S3 x3 I3 hk3 hcs3 hfu3 => by
      obtain ⟨i1, i2⟩ := hin e he
      obtain ⟨b, S', ev, res⟩ := h2 e he c1 hc1 { f with kid := satK x f.kid } _ S3 Φ hp ho (by dsimp only; rw [hkid, satK_cap]) ht i2 hj hk3 I3 hcs3 (Nat.le_trans hup (x2.trans x3).le) hΦ (hN.mono (x2.trans x3) (hz e he c1 hc1)) hfu3
      exact ⟨b, S', .bodyRep hx ho ev, res.lift .refl (hsem S3 x3 I3 e c1).symm rfl (Nat.le_refl _) fun _ => Nat.le_refl _⟩) he
    have hA : Anti (fun S => Φ S + pend K (q + 1) es L kR S) := fun S S' h => Nat.add_le_add (hΦ _ _ h) (pend_anti _ _ h)
    have hps := pend_sumW (K := K) (u := q + 1) (kN := kN) (L := L) (kR := kR) (S := S2) (es := es)
    have hq := (List.getElem?_eq_some_iff.1 hf0).1
    have hcs2 : S2.cs = noS :: c := p4.trans hcs
    have hall : (RLf x (K.kidsB f.node) j f.kid i c).findSome? (K.kont S.fs f.up j) = (((ends i j).findSome? fun e => if brkH x had i e then none else (LF1 K.w y js i e (emp (F.nd y js .nil).flat c)).findSome? (K.kont S2.fs (q + 1) e)).or ((if i = j ∧ x.mn ≤ (f.kid : Int) then [c] else []).findSome? (K.kont S.fs f.up j))) := by
      rw [RLf_eq, List.findSome?_append, if_pos (hM2.2 hm), fs_flat]
      congr 1
      refine fs_congr fun e he => ?_
      have he2 := mem_ends.1 he
      by_cases hb : brkH x had i e
      · rw [if_pos hb, if_pos ⟨hb.1, hmn.2 hb.2.1, h0k.2 hb.2.2⟩]; rfl
      · rw [if_neg hb, if_neg (fun h => hb ⟨h.1, hmn.1 h.2.1, h0k.1 h.2.2⟩), fs_flat, hkb e he2.1]
        congr 1
        funext c1
        rw [hsem S2 .refl Ip, hI.kont Ip x2 hup, RLf_sat hmx]
    have hem : ends i j = down i (j + 1 - i) := rfl
    rw [hes2] at hps
    obtain ⟨b, S3, ev, res⟩ := rndL_ok (j := j) hK hA hp hbrk (fun e a1 a2 a3 => by rw [hes2, List.mem_filter]; exact ⟨mem_ends.2 ⟨a1, a2⟩, by simpa using a3⟩) h1 hj hNx hc (j + 1 - i) (by omega) S2 .refl Ip hcs2 (by omega) (by rw [← hem]; rw [hes2] at hk ⊢; omega)
    rw [← hem] at res ev
    have res2 := res.lift (S := S) (sem := _) (k := k) (Φ := Φ) x2 rfl p4 (by rw [hes2] at hk ⊢; omega) fun S' => Nat.le_add_right _ _
    have hev : Ev K S2 (.rndL f (q + 1) i (ends i f.to)) b S3 := by rw [ht]; exact ev
    cases b with
    | true =>
      refine ⟨true, S3, .rndYes hx (hM.2 hm) hpu hev, res2.inv, res2.ext, fun _ => ?_, fun h => (by cases h)⟩
      obtain ⟨r', r1, r2, r3, r4⟩ := res2.yes rfl
      exact ⟨r', by rw [hall, r1]; rfl, r2, r3, r4⟩
    | false =>
      obtain ⟨r1, r2, r3⟩ := res2.no rfl
      have hgr := hev.grow
      by_cases he : i = f.to ∧ x.mn ≤ (f.kid : Int)
      · obtain ⟨b, S', ev2, res3⟩ := tail S3 res2.ext res2.inv (r2.trans hcs) (by omega) he
        refine ⟨b, S', .rndEnd hx (hM.2 hm) hpu hev he ev2, ((res2.seq res3).sem ?_).lift .refl rfl rfl (Nat.le_refl _) fun _ => Nat.le_refl _⟩
        rw [hall, r1, if_pos (by rw [← ht]; exact he), fs_one, hI.kont res2.inv res2.ext hup]; rfl
      · exact ⟨false, S3, .rndNo hx (hM.2 hm) hpu hev he, res2.sem (by rw [hall, r1, if_neg (by rw [← ht]; exact he)]; rfl)⟩
  · have hall : (RLf x (K.kidsB f.node) j f.kid i c).findSome? (K.kont S.fs f.up j) = ((if i = j ∧ x.mn ≤ (f.kid : Int) then [c] else []).findSome? (K.kont S.fs f.up j)) := by
      rw [RLf_eq, if_neg (fun h => hm (hM2.1 h)), List.nil_append]
    by_cases he : i = f.to ∧ x.mn ≤ (f.kid : Int)
    · obtain ⟨b, S', ev2, res3⟩ := tail S .refl hI hcs (by omega) he
      refine ⟨b, S', .rnd0End hx (fun h => hm (hM.1 h)) he ev2, res3.lift .refl ?_ rfl (by omega) fun _ => Nat.le_refl _⟩
      rw [hall, if_pos (by rw [← ht]; exact he), fs_one]
    · exact ⟨false, S, .rnd0No hx (fun h => hm (hM.1 h)) he, hI, .refl, fun h => (by cases h), fun _ => ⟨by rw [hall, if_neg (by rw [← ht]; exact he)]; rfl, rfl, by omega⟩⟩
def SrTgt (K : SrE) (N : Nat) : TQ → List Caps → Nat → Prop
  | .node x ks i j c, Z, k => NodeTgt K N x ks i j c Z k
  | .alt g i j c, Z, k => AltTgt K N g i j c Z k
  | .row g i j c, Z, k => RowTgt K N g i j c Z k
  | .rnd x y js had i j c, Z, k => RndTgt K N x y js had i j c Z k
theorem ct_ok (hK : K.ok N) {q : TQ} {Z : List Caps} {k : Nat} (h : Ct K.w.length q Z k) : SrTgt K N q Z k := by
  induction h with
  | leaf ho hz hk => exact sr_leaf hK ho hz hk
  | cat ho _ hk ih => exact sr_cat hK ho ih hk
  | rep ho _ hk ih => exact sr_rep hK ho ih hk
  | grp ho _ hz hk ih => exact sr_grp hK ho ih hz hk
  | altC ho _ hk ih => exact sr_altC ho ih hk
  | altNil => exact sr_altNil
  | altCons _ _ hz1 hz2 hk ih1 ih2 => exact sr_altCons ih1 ih2 hz1 hz2 hk
  | rowNil hz => exact sr_rowNil hz
  | rowCons hes _ _ hz hk ih1 ih2 => exact sr_rowCons hK hes ih1 ih2 hz hk
  | rnd hes _ _ hz hz2 hk ih1 ih2 => exact sr_rnd hK hes ih1 ih2 hz hz2 hk
theorem take_ok (hK : K.ok N) {x : Nd} {ks : F} {e0 i j : Nat} {c : Caps} {Z : List Caps} {k : Nat} (h : Ct K.w.length (.node x ks i j c) Z k) (hp : Part K.re (.nd x ks .nil) 0 e0) (hij : i ≤ j) (hj : j ≤ K.w.length) (hc : CapOk K N c) {S : SS} (hI : Inv K N S) (hcs : S.cs = noS :: c) (hf : k ≤ S.fuel) :
    ∃ b S', Ev K S (.take 0 i j 0) b S' ∧ Inv K N S' ∧ S'.wk ≤ S.wk + k ∧ (b = true → ∃ r, (LF1 K.w x ks i j c).head? = some r ∧ CapOk K N r ∧ S'.cs = noS :: r) ∧ (b = false → LF1 K.w x ks i j c = [] ∧ S'.cs = S.cs) := by
  have hT : NodeTgt K N x ks i j c Z k := ct_ok hK h
  obtain ⟨b, S', ev, res⟩ := hT 0 e0 S 0 (fun _ => 0) hp hij hj hc hI hcs (Nat.zero_le _) (fun _ _ _ => Nat.le_refl _) (fun S1 c1 _ I1 _ hk1 hcs1 _ => ⟨true, S1, .nextZero, I1, .refl, fun _ => ⟨c1, rfl, hk1, hcs1, by omega⟩, fun h => (by cases h)⟩) (by omega)
  have hk0 : K.kont S.fs 0 j = some := by funext c1; exact SrE.kont_zero
  have hh : ∀ l : List Caps, l.findSome? some = l.head? := fun l => by cases l <;> rfl
  rw [hk0, hh] at res
  refine ⟨b, S', ev, res.inv, ?_, fun hb => ?_, fun hb => ?_⟩
  · cases b with
    | true => obtain ⟨_, _, _, _, h⟩ := res.yes rfl; omega
    | false => obtain ⟨_, _, h⟩ := res.no rfl; omega
  · obtain ⟨r, r1, r2, r3, _⟩ := res.yes hb
    exact ⟨r, r1, r2, r3⟩
  · obtain ⟨r1, r2, _⟩ := res.no hb
    exact ⟨List.head?_eq_none_iff.1 r1, r2⟩
end
end Go.HL.Kl.Mc
namespace Go.HL.Kl.Mc
open Go Go.HL Go.HL.Kl
section
variable {P : Program} {κ : Cx} {L : Loc} {H : Hp} {ty t t' : TypeId} {x y : Operand}
theorem sp_fq {e : Nat} [TU P e (.int .i64)] [TG P e true] (w : World) (p q : Sp) : FQ P w 9998 (Esp p).toArray (Esp q).toArray [(e, 0), (e, 1)] (decide (p = q)) := by
  have h : FQ P w 9998 (Esp p).toArray (Esp q).toArray [(e, 0), (e, 1)] _ :=
    .int (j := .i64) (p := p.fr) (q := q.fr) rfl rfl (.int (j := .i64) (p := p.to) (q := q.to) rfl rfl .nil)
  have e : (p.fr == q.fr && (p.to == q.to && true)) = decide (p = q) := by
    cases p; cases q
    simp only [Sp.mk.injEq, Bool.and_true]
    rw [Bool.eq_iff_iff]
    simp
  rw [← e]; exact h
theorem s_eql_sp {e : Nat} [EG P t] [TU P e (.int .i64)] [TG P e true] [Go.HL.TQ P t [(e, 0), (e, 1)]] {p q : Sp} (hx : ev L x = some (.agg (Esp p).toArray)) (hy : ev L y = some (.agg (Esp q).toArray)) : Step P κ (.binOp .eql t x y t') ty L H (.bool (decide (p = q))) :=
  s_eql_st hx hy fun w => sp_fq w p q
theorem s_neq_sp {e : Nat} [EG P t] [TU P e (.int .i64)] [TG P e true] [Go.HL.TQ P t [(e, 0), (e, 1)]] {p q : Sp} (hx : ev L x = some (.agg (Esp p).toArray)) (hy : ev L y = some (.agg (Esp q).toArray)) : Step P κ (.binOp .neq t x y t') ty L H (.bool (!decide (p = q))) :=
  s_neq_st hx hy fun w => sp_fq w p q
end
end Go.HL.Kl.Mc
namespace Go.Proofs.YtloepfcndglmmaaDoor
open Go Go.HL Go.Proofs Go.HL.Kl Go.HL.Kl.Mc Go.HL.Kl.Mc.AskE
instance q134 : TQ Tryd.prog 134 [(3, 0), (3, 1), (3, 2), (3, 3), (45, 4)] := ⟨by kernel_rfl⟩
instance q187 : TQ Tryd.prog 187 [(3, 0), (3, 1), (3, 2)] := ⟨by kernel_rfl⟩
instance q201 : TQ Tryd.prog 201 [(3, 0), (199, 1)] := ⟨by kernel_rfl⟩
instance k45 : QK Tryd.prog 45 true 2 2 := QK.struct (l := [(3, 0), (3, 1)]) (Nat.le_refl _) (.cons (QK.int (t := 3)) (Nat.le_refl _) (.cons (QK.int (t := 3)) (Nat.le_refl _) .nil))
instance k134 : QK Tryd.prog 134 true 3 6 := QK.struct (l := [(3, 0), (3, 1), (3, 2), (3, 3), (45, 4)]) (by decide) (.cons (QK.int (t := 3)) (by decide) (.cons (QK.int (t := 3)) (by decide) (.cons (QK.int (t := 3)) (by decide) (.cons (QK.int (t := 3)) (by decide) (.cons k45 (by decide) .nil)))))
instance k187 : QK Tryd.prog 187 true 2 3 := QK.struct (l := [(3, 0), (3, 1), (3, 2)]) (Nat.le_refl _) (.cons (QK.int (t := 3)) (Nat.le_refl _) (.cons (QK.int (t := 3)) (Nat.le_refl _) (.cons (QK.int (t := 3)) (Nat.le_refl _) .nil)))
instance k199 : QK Tryd.prog 199 true 3 8 := QK.arr (m := 4) (e := 45) (se := 2) k45
instance k201 : QK Tryd.prog 201 true 4 9 := QK.struct (l := [(3, 0), (199, 1)]) (by decide) (.cons (QK.int (t := 3)) (by decide) (.cons k199 (by decide) .nil))
/-! keys as numbers -/
def FrI (f : Frm) : List Int := [f.up, f.node, f.kid, f.left, f.fr, f.to]
def TkI (t : Tk) : List Int := (t.ahead : Int) :: t.h.flatMap fun s => [s.fr, s.to]
def PtI (p : Pt) : List Int := [p.u, p.at_, p.tk]
def Efr (f : Frm) : List Value := [.int .i64 (f.up : Nat), .int .i64 (f.node : Nat), .int .i64 (f.kid : Nat), .int .i64 (f.left : Nat), .int .i64 (f.fr : Nat), .int .i64 (f.to : Nat)]
instance : Enc Efr 6 := ⟨fun _ => rfl, fun x v hv => by
  simp only [Efr, List.mem_cons, List.not_mem_nil, or_false] at hv
  rcases hv with rfl | rfl | rfl | rfl | rfl | rfl <;> rfl⟩
def EkF (f : Frm) : Value := .agg (intsV .i64 (FrI f)).toArray
def EkP (p : Pt) : Value := .agg (intsV .i64 (PtI p)).toArray
structure Tk4 where
  t : Tk
  h4 : t.h.length = 4
def EkT (t : Tk4) : Value := .agg (intsV .i64 (TkI t.t)).toArray
instance : DecidableEq Tk4 := fun a b => decidable_of_iff (a.t = b.t) ⟨fun h => by cases a; cases b; cases h; rfl, fun h => by rw [h]⟩
theorem struct_of {t : Nat} {l : List (Nat × Nat)} [TQ Tryd.prog t l] : ∃ fs, Tryd.prog.underlying t = some (.struct fs) := by
  obtain ⟨fs, h, _⟩ := ky_struct (P := Tryd.prog) (t := t) (l := l)
  exact ⟨fs, h⟩
instance keF : KE Tryd.prog 134 EkF := KE.of (Ei := FrI) (fun _ => rfl) (fun a b h => by
  cases a; cases b
  simp only [FrI, List.cons.injEq, Int.ofNat_inj, and_true] at h
  simp only [Frm.mk.injEq]; exact h) (by decide) struct_of
instance keP : KE Tryd.prog 187 EkP := KE.of (Ei := PtI) (fun _ => rfl) (fun a b h => by
  cases a; cases b
  simp only [PtI, List.cons.injEq, Int.ofNat_inj, and_true] at h
  simp only [Pt.mk.injEq]; exact h) (by decide) struct_of
theorem TkI_len (t : Tk4) : (TkI t.t).length = 9 := by
  obtain ⟨⟨a, h⟩, h4⟩ := t
  match h, h4 with
  | [s1, s2, s3, s4], _ => rfl
instance keT : KE Tryd.prog 201 EkT := KE.of (Ei := fun t : Tk4 => TkI t.t) TkI_len (fun a b h => by
  obtain ⟨⟨a1, ha⟩, h4⟩ := a
  obtain ⟨⟨b1, hb⟩, h5⟩ := b
  match ha, h4, hb, h5 with
  | [⟨a2, a3⟩, ⟨a4, a5⟩, ⟨a6, a7⟩, ⟨a8, a9⟩], _, [⟨b2, b3⟩, ⟨b4, b5⟩, ⟨b6, b7⟩, ⟨b8, b9⟩], _ =>
    simp only [TkI, List.flatMap_cons, List.flatMap_nil, List.cons_append, List.nil_append, List.cons.injEq, Int.ofNat_inj, and_true] at h
    obtain ⟨rfl, rfl, rfl, rfl, rfl, rfl, rfl, rfl, rfl⟩ := h
    rfl) (by decide) struct_of
end Go.Proofs.YtloepfcndglmmaaDoor
namespace Go.HL.Kl.Mc
open Go Go.HL Go.HL.Kl AskE
theorem fnd_snoc {α : Type} [DecidableEq α] {a b : α} : ∀ {l : List α}, fnd b l = none → fnd a (l ++ [b]) = if a = b then some l.length else fnd a l
  | [], _ => by
    by_cases h : a = b
    · subst h; simp [fnd]
    · rw [if_neg h]; simp [fnd, Ne.symm h]
  | c :: l, hb => by
    unfold fnd at hb
    split at hb
    · cases hb
    · rename_i hcb
      rw [Option.map_eq_none_iff] at hb
      have ih := fnd_snoc (a := a) hb
      rw [List.cons_append]
      unfold fnd
      rw [ih]
      by_cases h : a = b
      · subst h
        rw [if_pos rfl, if_pos rfl, if_neg hcb]; rfl
      · rw [if_neg h, if_neg h]
theorem push_some {S : SS} {f : Frm} {k : Nat} (h : fnd f S.fs = some k) : S.push f = (k + 1, S) := by unfold SS.push; rw [h]
theorem push_none {S : SS} {f : Frm} (h : fnd f S.fs = none) : S.push f = (S.fs.length + 1, { S with fs := S.fs ++ [f] }) := by unfold SS.push; rw [h]
end Go.HL.Kl.Mc
