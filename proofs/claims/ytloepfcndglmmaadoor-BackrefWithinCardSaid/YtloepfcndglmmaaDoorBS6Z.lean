/- The search with back-references: groups, choices, rows, repetitions; all of it. Conditions: none. -/
import Derived.Test.YtloepfcndglmmaaDoorBS2Z
import Derived.Test.YtloepfcndglmmaaDoorMT9Z
import Derived.Test.YtloepfcndglmmaaDoorBM1Z
import Derived.Test.YtloepfcndglmmaaDoorMT20Z
namespace Go.HL.Kl.Mc
open Go Go.HL Go.HL.Kl AskE
theorem sum_ones {α : Type} : ∀ (l : List α), (l.map fun _ => 0 + 1).sum = l.length
  | [] => rfl
  | a :: l => by
    have := sum_ones l
    simp only [List.map_cons, List.sum_cons, List.length_cons] at this ⊢; omega
section
variable {K : SrE} {N : Nat}
theorem Res.seq {S S1 S2 : SS} {b : Bool} {sem1 sem2 : Option Caps} {k1 k2 : Nat} {Φ : SS → Nat} (h : Res K N S S1 false sem1 k1 Φ) (h' : Res K N S1 S2 b sem2 k2 Φ) : Res K N S S2 b sem2 (k1 + k2) Φ := by
  obtain ⟨_, r2, r3⟩ := h.no rfl
  refine ⟨h'.inv, h.ext.trans h'.ext, fun hb => ?_, fun hb => ?_⟩
  · obtain ⟨r, q1, q2, q3, q4⟩ := h'.yes hb
    exact ⟨r, q1, q2, q3, by omega⟩
  · obtain ⟨q1, q2, q3⟩ := h'.no hb
    exact ⟨q1, q2.trans r2, by omega⟩
theorem Res.sem {S S' : SS} {b : Bool} {sem sem' : Option Caps} {k : Nat} {Φ : SS → Nat} (h : Res K N S S' b sem k Φ) (e : sem = sem') : Res K N S S' b sem' k Φ := e ▸ h
theorem sr_grp (hK : K.ok N) {x y : Nd} {js : F} {i j : Nat} {c : Caps} {Z L : List Caps} {k k0 : Nat} (ho : x.op = 7) (ih : NodeTgt K N y js i j (emp (F.nd y js .nil).flat c) L k0) (hz : ∀ d ∈ L, d.set (x.n.toNat - 1) ⟨i, j⟩ ∈ Z) (hk : k0 + L.length + 1 ≤ k) : NodeTgt K N x (.nd y js .nil) i j c Z k := by
  intro at_ e0 S up Φ hp hij hj hc hI hcs hup hΦ hN hfu
  obtain ⟨hx, hpk, _⟩ := hp.head
  have hgr := hK.grp x (List.mem_of_getElem? hx) ho
  obtain ⟨m, hm⟩ : ∃ m, x.n.toNat = m + 1 := ⟨x.n.toNat - 1, by omega⟩
  have hm1 : x.n.toNat - 1 = m := by omega
  have hf : 0 < S.fuel := by omega
  have htf : S.tick.fuel = S.fuel - 1 := rfl
  have htw : S.tick.wk = S.wk + 1 := rfl
  have x1 : Ext S ({ S.tick with cs := fgt (K.inn (at_ + 1) (K.bh at_)) S.cs } : SS) := Ext.same rfl rfl rfl
  have I1 : Inv K N ({ S.tick with cs := fgt (K.inn (at_ + 1) (K.bh at_)) S.cs } : SS) := hI.same rfl rfl rfl
  generalize hpu : ({ S.tick with cs := fgt (K.inn (at_ + 1) (K.bh at_)) S.cs } : SS).push ⟨up, at_, 0, 0, i, j⟩ = pr
  obtain ⟨u, S2⟩ := pr
  obtain ⟨xp, Ip, q, rfl, hf0⟩ := push_spec hpu I1 hup
  obtain ⟨_, p2, p3, p4, _, _⟩ := SS.push_sz hpu
  have p2 : S2.wk = S.wk + 1 := p2
  have p3 : S2.fuel = S.fuel - 1 := p3
  have x2 : Ext S S2 := x1.trans xp
  have hΦ2 := hΦ _ _ x2
  have p4 : S2.cs = fgt (K.inn (at_ + 1) (K.bh at_)) S.cs := p4
  have hcs2 : S2.cs = noS :: emp (F.nd y js .nil).flat c := by rw [p4, hcs]; exact hK.emp hp c
  have hce := hc.emp (F.nd y js .nil).flat
  have hsem : ∀ S3, Ext S2 S3 → Inv K N S3 → ∀ e c1, K.kont S3.fs (q + 1) e c1 = K.kont S3.fs up e (c1.set m ⟨i, j⟩) := fun S3 x3 I3 e c1 => by
    rw [SrE.kont_succ I3.ch (x3.get hf0) hx, if_neg (by omega), if_neg (by omega), hm1]
  have hNx : NextOK K N S2 (q + 1) j L (fun S => Φ S + pend K (q + 1) [j] (fun _ => L) (fun _ _ => 0) S) := frame_ok (N := N) hK.ref hΦ (es := [j]) (L := fun _ => L) (kR := fun _ _ => 0) hf0 (fun e he c1 hc1 S3 x3 I3 hk3 hcs3 hfu3 => by
    obtain rfl := List.mem_singleton.1 he
    have hS4 : S3.cs.set x.n.toNat ⟨i, e⟩ = noS :: c1.set m ⟨i, e⟩ := by rw [hcs3, hm]; rfl
    have x4 : Ext S3 ({ S3 with cs := S3.cs.set x.n.toNat ⟨i, e⟩ } : SS) := Ext.same rfl rfl rfl
    have hΦ4 := hΦ _ _ x4
    have hz1 := hz c1 hc1
    rw [hm1] at hz1
    obtain ⟨b, S', ev, res⟩ := hN ({ S3 with cs := S3.cs.set x.n.toNat ⟨i, e⟩ } : SS) (c1.set m ⟨i, e⟩) ((x2.trans x3).trans x4) (I3.same rfl rfl rfl) hz1 (hk3.set hij hj m) hS4 (by show _ ≤ S3.fuel; omega)
    have hwk4 : ({ S3 with cs := S3.cs.set x.n.toNat ⟨i, e⟩ } : SS).wk = S3.wk := rfl
    cases b with
    | true =>
      refine ⟨true, S', .bodyGrpY hx (by omega) (by omega) ev, res.inv, x4.trans res.ext, fun _ => ?_, fun h => (by cases h)⟩
      obtain ⟨r, r1, r2, r3, r4⟩ := res.yes rfl
      exact ⟨r, by rw [hsem S3 x3 I3]; exact r1, r2, r3, by omega⟩
    | false =>
      obtain ⟨r1, r2, r3⟩ := res.no rfl
      refine ⟨false, _, .bodyGrpN hx (by omega) (by omega) ev, res.inv.same rfl rfl rfl, x4.trans (res.ext.trans (Ext.same rfl rfl rfl)), fun h => (by cases h), fun _ => ⟨by rw [hsem S3 x3 I3]; exact r1, ?_, ?_⟩⟩
      · show S'.cs.set x.n.toNat (S3.cs.getD x.n.toNat noS) = S3.cs
        rw [r2]
        show (S3.cs.set x.n.toNat ⟨i, e⟩).set x.n.toNat _ = _
        rw [List.set_set, hcs3, hm]
        simp only [List.getD_cons_succ, List.set_cons_succ]
        congr 1
        have hml : m < c1.length := by rw [hk3.len]; omega
        apply List.ext_getElem?
        intro n
        by_cases en : m = n
        · subst en
          rw [List.getElem?_set_self hml, List.getD_eq_getElem?_getD, List.getElem?_eq_getElem hml]; rfl
        · rw [List.getElem?_set_ne en]
      · have h5 := hΦ S' _ (Ext.same (S1 := { S' with cs := S'.cs.set x.n.toNat (S3.cs.getD x.n.toNat noS) }) rfl rfl rfl)
        show S'.wk + _ ≤ _
        omega) (List.mem_singleton_self j)
  have hpl := pend_le (K := K) (u := q + 1) (es := [j]) (L := fun _ => L) (kR := fun _ _ => 0) (S := S2)
  simp only [List.map_cons, List.map_nil, List.sum_cons, List.sum_nil] at hpl
  have hso := sum_ones L
  rw [hso] at hpl
  have hq := (List.getElem?_eq_some_iff.1 hf0).1
  have hA : Anti (fun S => Φ S + pend K (q + 1) [j] (fun _ => L) (fun _ _ => 0) S) := fun S S' h => Nat.add_le_add (hΦ _ _ h) (pend_anti _ _ h)
  obtain ⟨b, S', ev, res⟩ := ih (at_ + 1) _ S2 (q + 1) _ hpk hij hj hce Ip hcs2 (by omega) hA hNx (by omega)
  have hse : (LF1 K.w y js i j (emp (F.nd y js .nil).flat c)).findSome? (K.kont S2.fs (q + 1) j) = (LF1 K.w x (.nd y js .nil) i j c).findSome? (K.kont S.fs up j) := by
    rw [LF1_7 ho, fs_map, LF_one, if_pos hij, hm1, ← hI.kont Ip x2 hup]
    congr 1
    funext d
    exact hsem S2 .refl Ip j d
  cases b with
  | true =>
    refine ⟨true, S', .takeGrpY hx hf ho hpu ev, res.inv, x2.trans res.ext, fun _ => ?_, fun h => (by cases h)⟩
    obtain ⟨r, r1, r2, r3, r4⟩ := res.yes rfl
    exact ⟨r, by rw [← hse]; exact r1, r2, r3, by omega⟩
  | false =>
    obtain ⟨r1, r2, r3⟩ := res.no rfl
    refine ⟨false, _, .takeGrpN hx hf ho hpu ev, res.inv.same rfl rfl rfl, x2.trans (res.ext.trans (Ext.same rfl rfl rfl)), fun h => (by cases h), fun _ => ⟨by rw [← hse]; exact r1, ?_, ?_⟩⟩
    · show rst _ _ S'.cs = S.cs
      rw [r2, p4, hcs]
      exact hK.rst hp hc.len
    · have h5 := hΦ S' _ (Ext.same (S1 := { S' with cs := rst (K.inn (at_ + 1) (K.bh at_)) (emW (K.inn (at_ + 1) (K.bh at_)) S.cs) S'.cs }) rfl rfl rfl)
      show S'.wk + _ ≤ _
      omega
theorem sr_altC {x : Nd} {ks : F} {i j : Nat} {c : Caps} {Z : List Caps} {k k0 : Nat} (ho : x.op = 5) (ih : AltTgt K N ks i j c Z k0) (hk : k0 + 1 ≤ k) : NodeTgt K N x ks i j c Z k := by
  intro at_ e0 S up Φ hp hij hj hc hI hcs hup hΦ hN hfu
  obtain ⟨hx, hpk, _⟩ := hp.head
  have xT : Ext S S.tick := tick_ext
  have IT : Inv K N S.tick := hI.same rfl rfl rfl
  have hΦT := hΦ _ _ xT
  have hf : 0 < S.fuel := by omega
  have htf : S.tick.fuel = S.fuel - 1 := rfl
  have htw : S.tick.wk = S.wk + 1 := rfl
  have hkn : x.kids.toNat = ks.num := by have h : (ks.num : Int) = x.kids := hp.wf.2.1; omega
  obtain ⟨b, S', ev, res⟩ := ih (at_ + 1) _ S.tick up Φ hpk hij hj hc IT hcs hup hΦ (hN.mono xT fun _ h => h) (by omega)
  exact ⟨b, S', .takeAlt hx hf ho (by rw [hkn]; exact ev), res.lift xT (by rw [LF1_5 ho]; rfl) rfl (by omega) fun _ => Nat.le_refl _⟩
theorem sr_altNil {i j : Nat} {c : Caps} {Z : List Caps} {k : Nat} : AltTgt K N .nil i j c Z k := by
  intro kid e0 S up Φ hp hij hj hc hI hcs hup hΦ hN hfu
  exact ⟨false, S, .altNil, hI, .refl, fun h => (by cases h), fun _ => ⟨by rw [LF_nilT]; rfl, rfl, by omega⟩⟩
theorem sr_altCons {y : Nd} {js r : F} {i j : Nat} {c : Caps} {Z Z1 Z2 : List Caps} {k k1 k2 : Nat} (h1 : NodeTgt K N y js i j c Z1 k1) (h2 : AltTgt K N r i j c Z2 k2) (hz1 : ∀ d ∈ Z1, d ∈ Z) (hz2 : ∀ d ∈ Z2, d ∈ Z) (hk : k1 + k2 ≤ k) : AltTgt K N (.nd y js r) i j c Z k := by
  intro kid e0 S up Φ hp hij hj hc hI hcs hup hΦ hN hfu
  obtain ⟨hy, hpk, hpr⟩ := hp.head
  have hnum : (F.nd y js r).num = r.num + 1 := by simp only [F.num]; try omega
  obtain ⟨b, S1, ev, res⟩ := h1 kid _ S up Φ hp.one hij hj hc hI hcs hup hΦ (hN.mono .refl hz1) (by omega)
  rw [hnum]
  cases b with
  | true =>
    refine ⟨true, S1, .altYes ev, res.inv, res.ext, fun _ => ?_, fun h => (by cases h)⟩
    obtain ⟨r', r1, r2, r3, r4⟩ := res.yes rfl
    exact ⟨r', by rw [LF_alt, List.findSome?_append, r1]; rfl, r2, r3, by omega⟩
  | false =>
    obtain ⟨r1, r2, r3⟩ := res.no rfl
    have hgr := ev.grow
    obtain ⟨b, S', ev2, res2⟩ := h2 _ _ S1 up Φ hpr hij hj hc res.inv (r2.trans hcs) (Nat.le_trans hup res.ext.le) hΦ (hN.mono res.ext hz2) (by omega)
    refine ⟨b, S', .altNo ev (by rw [SrE.bh_eq hp.one]; exact ev2), ((res.seq res2).sem (sem' := (LF K.w (.nd y js r) true i j c).findSome? (K.kont S.fs up j)) ?_).lift .refl rfl rfl (by omega) fun _ => Nat.le_refl _⟩
    rw [LF_alt, List.findSome?_append, r1, hI.kont res.inv res.ext hup]; rfl
theorem sr_rowNil {i j : Nat} {c : Caps} {Z : List Caps} {k : Nat} (hz : i = j → c ∈ Z) : RowTgt K N .nil i j c Z k := by
  intro f x e0 S Φ hx ho hp hl ht hij hj hc hI hcs hup hΦ hN hfu
  have hl0 : f.left = 0 := hl
  by_cases he : i = j
  · obtain ⟨b, S', ev, res⟩ := hN S c .refl hI (hz he) hc hcs (by omega)
    exact ⟨b, S', .rowZ hl0 (by omega) (by rw [he]; exact ev), res.lift .refl (by rw [LF_nilF, if_pos he, fs_one]) rfl (by omega) fun _ => Nat.le_refl _⟩
  · exact ⟨false, S, .rowZN hl0 (by omega), hI, .refl, fun h => (by cases h), fun _ => ⟨by rw [LF_nilF, if_neg he]; rfl, rfl, by omega⟩⟩
theorem rowL_ok {f : Frm} {y : Nd} {js : F} {e1 i : Nat} {c : Caps} {S0 : SS} {u : Nat} {Φ : SS → Nat} (hΦ : Anti Φ) (hp : Part K.re (.nd y js .nil) f.kid e1) (hl1 : f.left ≠ 1) {es : List Nat} {L : Nat → List Caps} {kN : Nat → Nat} (h1 : ∀ e, e ∈ es → NodeTgt K N y js i e c (L e) (kN e))
    (hb : ∀ e ∈ es, i ≤ e ∧ e ≤ K.w.length) (hN : ∀ e ∈ es, NextOK K N S0 u e (L e) Φ) (hc : CapOk K N c) : ∀ (l : List Nat), (∀ e ∈ l, e ∈ es) → ∀ S, Ext S0 S → Inv K N S → S.cs = noS :: c → u ≤ S.fs.length → (l.map kN).sum + Φ S ≤ S.fuel →
    ∃ b S', Ev K S (.rowL f u i l) b S' ∧ Res K N S S' b (l.findSome? fun e => (LF1 K.w y js i e c).findSome? (K.kont S.fs u e)) (l.map kN).sum Φ
  | [], _, S, hx, hI, hcs, hu, hfu => ⟨false, S, .rowLNil, hI, .refl, fun h => (by cases h), fun _ => ⟨rfl, rfl, by simp⟩⟩
  | e :: l, hm, S, hx, hI, hcs, hu, hfu => by
    have he := hm e List.mem_cons_self
    obtain ⟨b1, b2⟩ := hb e he
    simp only [List.map_cons, List.sum_cons] at hfu ⊢
    obtain ⟨b, S1, ev, res⟩ := h1 e he f.kid _ S u Φ hp b1 b2 hc hI hcs hu hΦ ((hN e he).mono hx fun _ h => h) (by omega)
    cases b with
    | true =>
      refine ⟨true, S1, .rowLYes ev, res.inv, res.ext, fun _ => ?_, fun h => (by cases h)⟩
      obtain ⟨r', r1, r2, r3, r4⟩ := res.yes rfl
      exact ⟨r', by rw [List.findSome?_cons, r1], r2, r3, by omega⟩
    | false =>
      obtain ⟨r1, r2, r3⟩ := res.no rfl
      have hgr := ev.grow
      obtain ⟨b, S', ev2, res2⟩ := rowL_ok hΦ hp hl1 h1 hb hN hc l (fun e h => hm e (List.mem_cons_of_mem _ h)) S1 (hx.trans res.ext) res.inv (r2.trans hcs) (Nat.le_trans hu res.ext.le) (by omega)
      refine ⟨b, S', .rowLNo hl1 ev ev2, (res.seq res2).sem ?_⟩
      rw [List.findSome?_cons, r1, hI.kont res.inv res.ext hu]
theorem sr_rowCons (hK : K.ok N) {y : Nd} {js r : F} {i j : Nat} {c : Caps} {Z : List Caps} {k : Nat} {es : List Nat} {L : Nat → List Caps} {kN : Nat → Nat} {R : Nat → Caps → List Caps} {kR : Nat → Caps → Nat} (hes : es = if r.num = 0 then [j] else ends i j)
    (h1 : ∀ e, e ∈ es → NodeTgt K N y js i e c (L e) (kN e)) (h2 : ∀ e, e ∈ es → ∀ c1, c1 ∈ L e → RowTgt K N r e j c1 (R e c1) (kR e c1)) (hz : ∀ e, e ∈ es → ∀ c1, c1 ∈ L e → ∀ d, d ∈ R e c1 → d ∈ Z) (hk : sumW es L kN kR ≤ k) : RowTgt K N (.nd y js r) i j c Z k := by
  intro f x e0 S Φ hx ho hp hl ht hij hj hc hI hcs hup hΦ hN hfu
  obtain ⟨hy, hpk, hpr⟩ := hp.head
  have hnum : (F.nd y js r).num = r.num + 1 := by simp only [F.num]; try omega
  have hbh := SrE.bh_eq hp.one
  have hin : ∀ e ∈ es, i ≤ e ∧ e ≤ j := fun e he => by
    rw [hes] at he
    split at he
    · obtain rfl := List.mem_singleton.1 he; omega
    · exact mem_ends.1 he
  generalize hpu : S.push { f with kid := K.bh f.kid, left := r.num, fr := 0 } = pr
  obtain ⟨u, S2⟩ := pr
  obtain ⟨x2, Ip, q, rfl, hf0⟩ := push_spec hpu hI hup
  obtain ⟨_, p2, p3, p4, _, _⟩ := SS.push_sz hpu
  have hΦ2 := hΦ _ _ x2
  have hfo : foAt K.re (K.bh f.kid) r.num = r := by rw [hbh]; exact foAt_eq hpr
  have hsem : ∀ S3, Ext S2 S3 → Inv K N S3 → ∀ e c1, K.kont S3.fs (q + 1) e c1 = (LF K.w r false e j c1).findSome? (K.kont S3.fs f.up j) := fun S3 x3 I3 e c1 => by
    rw [SrE.kont_succ I3.ch (x3.get hf0) hx, if_pos ho]
    dsimp only
    rw [hfo, ht]
  have hNx : ∀ e, e ∈ es → NextOK K N S2 (q + 1) e (L e) (fun S => Φ S + pend K (q + 1) es L kR S) := fun e he => frame_ok (N := N) hK.ref hΦ hf0 (fun e he c1 hc1 S3 x3 I3 hk3 hcs3 hfu3 => by
    obtain ⟨i1, i2⟩ := hin e he
    obtain ⟨b, S', ev, res⟩ := h2 e he c1 hc1 { f with kid := K.bh f.kid, left := r.num, fr := 0 } x _ S3 Φ hx ho (by rw [hbh]; exact hpr) rfl ht i2 hj hk3 I3 hcs3 (Nat.le_trans hup (x2.trans x3).le) hΦ (hN.mono (x2.trans x3) (hz e he c1 hc1)) hfu3
    exact ⟨b, S', .bodyCat hx ho ev, res.lift .refl (hsem S3 x3 I3 e c1).symm rfl (Nat.le_refl _) fun _ => Nat.le_refl _⟩) he
  have hA : Anti (fun S => Φ S + pend K (q + 1) es L kR S) := fun S S' h => Nat.add_le_add (hΦ _ _ h) (pend_anti _ _ h)
  have hps := pend_sumW (K := K) (u := q + 1) (kN := kN) (L := L) (kR := kR) (S := S2) (es := es)
  have hq := (List.getElem?_eq_some_iff.1 hf0).1
  have hall : (LF K.w (.nd y js r) false i j c).findSome? (K.kont S.fs f.up j) = (ends i j).findSome? fun e => (LF1 K.w y js i e c).findSome? (K.kont S2.fs (q + 1) e) := by
    rw [LF_cat, fs_flat]
    congr 1
    funext e
    rw [fs_flat]
    congr 1
    funext c1
    rw [hsem S2 .refl Ip, hI.kont Ip x2 hup]
  have hcs2 : S2.cs = noS :: c := p4.trans hcs
  by_cases hr : r.num = 0
  · rw [if_pos hr] at hes
    subst hes
    have hr0 : r = .nil := F.num_nil hr
    simp only [List.map_cons, List.map_nil, List.sum_cons, List.sum_nil] at hps
    obtain ⟨b, S', ev, res⟩ := h1 j (List.mem_singleton_self j) f.kid _ S2 (q + 1) _ hp.one hij hj hc Ip hcs2 (by omega) hA (hNx j (List.mem_singleton_self j)) (by omega)
    have hends : ends i j = j :: down i (j - i) := by unfold ends; rw [show j + 1 - i = (j - i) + 1 by omega, down, show i + (j - i) = j by omega]
    have hrest : ∀ e, e ≠ j → (LF1 K.w y js i e c).findSome? (K.kont S2.fs (q + 1) e) = none := fun e he => by
      rw [List.findSome?_eq_none_iff]
      intro c1 _
      rw [hsem S2 .refl Ip, hr0, LF_nilF, if_neg he]; rfl
    have hrl : (down i (j - i)).findSome? (fun e => (LF1 K.w y js i e c).findSome? (K.kont S2.fs (q + 1) e)) = none := by
      rw [List.findSome?_eq_none_iff]
      intro e he
      have := mem_down.1 he
      exact hrest e (by omega)
    have hse : (LF1 K.w y js i j c).findSome? (K.kont S2.fs (q + 1) j) = (LF K.w (.nd y js r) false i j c).findSome? (K.kont S.fs f.up j) := by
      rw [hall, hends, List.findSome?_cons, hrl]
      split
      · assumption
      · assumption
    have res' := res.lift (S := S) (sem := (LF K.w (.nd y js r) false i j c).findSome? (K.kont S.fs f.up j)) (k := k) (Φ := Φ) x2 hse p4 (by omega) fun S' => Nat.le_add_right _ _
    have hl1 : f.left = 1 := by omega
    have hlp : f.left = r.num + 1 := by omega
    cases b with
    | true => exact ⟨true, S', .rowS hlp hpu (by rw [ht, hends]; exact .rowLYes ev), res'⟩
    | false => exact ⟨false, S', .rowS hlp hpu (by rw [ht, hends]; exact .rowLLast hl1 ev), res'⟩
  · rw [if_neg hr] at hes
    subst hes
    obtain ⟨b, S', ev, res⟩ := rowL_ok hA hp.one (by omega : f.left ≠ 1) h1 (fun e he => ⟨(hin e he).1, by have := (hin e he).2; omega⟩) hNx hc (ends i j) (fun _ h => h) S2 .refl Ip hcs2 (by omega) (by omega)
    exact ⟨b, S', .rowS (by omega : f.left = r.num + 1) hpu (by rw [ht]; exact ev), res.lift x2 hall.symm p4 (by omega) fun S' => Nat.le_add_right _ _⟩
end
end Go.HL.Kl.Mc
namespace Go.HL.Kl.Mc
open Go Go.HL Go.HL.Kl AskE
theorem fs_congr {α : Type} {f g : α → Option Caps} : ∀ {l : List α}, (∀ a ∈ l, f a = g a) → l.findSome? f = l.findSome? g
  | [], _ => rfl
  | a :: l, h => by rw [List.findSome?_cons, List.findSome?_cons, h a List.mem_cons_self, fs_congr fun b hb => h b (List.mem_cons_of_mem _ hb)]
theorem RLf_sat {x : Nd} {B : Nat → Nat → Caps → List Caps} {q kid p : Nat} {c : Caps} (hx : x.mx = -1 ∨ 0 ≤ x.mx) : RLf x B q (satK x kid) p c = RLf x B q (kid + 1) p c := by
  unfold satK
  by_cases hm : x.mx < 0
  · rw [if_pos hm]
    rcases Nat.lt_or_ge (max x.mn.toNat 1) (kid + 1) with h | h
    · rw [Nat.min_eq_right (by omega)]
      exact RLf_cap (by omega) _ _ _ _ _ (Nat.le_refl _) (Nat.le_refl _) (by omega)
    · rw [Nat.min_eq_left h]
  · rw [if_neg hm]
section
variable {K : SrE} {N : Nat}
def brkH (x : Nd) (had i e : Nat) : Prop := e = i ∧ x.mn ≤ (had : Int) ∧ 0 < had
instance {x : Nd} {had i e : Nat} : Decidable (brkH x had i e) := by unfold brkH; infer_instance
theorem rndL_ok (hK : K.ok N) {f : Frm} {x y : Nd} {js : F} {e1 i j had : Nat} {c : Caps} {S0 : SS} {u : Nat} {Φ : SS → Nat} (hΦ : Anti Φ) (hp : Part K.re (.nd x (.nd y js .nil) .nil) f.node e1) (hbrk : ∀ e, brk x f i e ↔ brkH x had i e) {es : List Nat} {L : Nat → List Caps} {kN : Nat → Nat}
    (hes : ∀ e, i ≤ e → e ≤ j → ¬ brkH x had i e → e ∈ es) (h1 : ∀ e, e ∈ es → NodeTgt K N y js i e (emp (F.nd y js .nil).flat c) (L e) (kN e)) (hj : j ≤ K.w.length) (hN : ∀ e ∈ es, NextOK K N S0 u e (L e) Φ) (hc : CapOk K N c) :
    ∀ (k : Nat), i + k ≤ j + 1 → ∀ S, Ext S0 S → Inv K N S → S.cs = noS :: c → u ≤ S.fs.length → (((down i k).filter fun e => decide (¬ brkH x had i e)).map kN).sum + Φ S ≤ S.fuel →
    ∃ b S', Ev K S (.rndL f u i (down i k)) b S' ∧ Res K N S S' b ((down i k).findSome? fun e => if brkH x had i e then none else (LF1 K.w y js i e (emp (F.nd y js .nil).flat c)).findSome? (K.kont S.fs u e)) (((down i k).filter fun e => decide (¬ brkH x had i e)).map kN).sum Φ
  | 0, _, S, hx, hI, hcs, hu, hfu => ⟨false, S, .rndLNil, hI, .refl, fun h => (by cases h), fun _ => ⟨rfl, rfl, by simp [down]⟩⟩
  | k + 1, hkj, S, hx, hI, hcs, hu, hfu => by
    have hxx := hp.head.1
    rw [down] at hfu ⊢
    by_cases hB : brkH x had i (i + k)
    · have hk0 : k = 0 := by have := hB.1; omega
      subst hk0
      refine ⟨false, S, .rndLBrk hxx ((hbrk _).2 hB), hI, .refl, fun h => (by cases h), fun _ => ⟨?_, rfl, ?_⟩⟩
      · rw [List.findSome?_cons, if_pos hB]; rfl
      · omega
    · have hfil : (((i + k) :: down i k).filter fun e => decide (¬ brkH x had i e)) = (i + k) :: (down i k).filter fun e => decide (¬ brkH x had i e) := by rw [List.filter_cons, if_pos (by simpa using hB)]
      rw [hfil, List.map_cons, List.sum_cons] at hfu ⊢
      have he := hes (i + k) (by omega) (by omega) hB
      have x1 : Ext S ({ S with cs := fgt (K.inn (f.node + 1) (K.bh f.node)) S.cs } : SS) := Ext.same rfl rfl rfl
      have hcs1 : fgt (K.inn (f.node + 1) (K.bh f.node)) S.cs = noS :: emp (F.nd y js .nil).flat c := by rw [hcs]; exact hK.emp hp c
      have hΦ1 := hΦ _ _ x1
      obtain ⟨b, S1, ev, res⟩ := h1 (i + k) he (f.node + 1) _ ({ S with cs := fgt (K.inn (f.node + 1) (K.bh f.node)) S.cs } : SS) u Φ hp.head.2.1 (by omega) (by omega) (hc.emp _) (hI.same rfl rfl rfl) hcs1 hu hΦ ((hN (i + k) he).mono (hx.trans x1) fun _ h => h) (by show _ ≤ S.fuel; omega)
      have hw1 : ({ S with cs := fgt (K.inn (f.node + 1) (K.bh f.node)) S.cs } : SS).wk = S.wk := rfl
      have hf1 : ({ S with cs := fgt (K.inn (f.node + 1) (K.bh f.node)) S.cs } : SS).fuel = S.fuel := rfl
      have hfs1 : ({ S with cs := fgt (K.inn (f.node + 1) (K.bh f.node)) S.cs } : SS).fs = S.fs := rfl
      cases b with
      | true =>
        refine ⟨true, S1, .rndLYes hxx (fun h => hB ((hbrk _).1 h)) ev, res.inv, x1.trans res.ext, fun _ => ?_, fun h => (by cases h)⟩
        obtain ⟨r', r1, r2, r3, r4⟩ := res.yes rfl
        rw [hfs1] at r1
        exact ⟨r', by rw [List.findSome?_cons, if_neg hB, r1], r2, r3, by omega⟩
      | false =>
        obtain ⟨r1, r2, r3⟩ := res.no rfl
        rw [hfs1] at r1
        have hgr := ev.grow
        have x2 : Ext S1 ({ S1 with cs := rst (K.inn (f.node + 1) (K.bh f.node)) (emW (K.inn (f.node + 1) (K.bh f.node)) S.cs) S1.cs } : SS) := Ext.same rfl rfl rfl
        have hΦ2 := hΦ _ _ x2
        have r2 : S1.cs = fgt (K.inn (f.node + 1) (K.bh f.node)) S.cs := r2
        have hcs2 : rst (K.inn (f.node + 1) (K.bh f.node)) (emW (K.inn (f.node + 1) (K.bh f.node)) S.cs) S1.cs = noS :: c := by rw [r2, hcs]; exact hK.rst hp hc.len
        have xx := x1.trans (res.ext.trans x2)
        have resA : Res K N S ({ S1 with cs := rst (K.inn (f.node + 1) (K.bh f.node)) (emW (K.inn (f.node + 1) (K.bh f.node)) S.cs) S1.cs } : SS) false none (kN (i + k)) Φ :=
          ⟨res.inv.same rfl rfl rfl, xx, fun h => (by cases h), fun _ => ⟨rfl, hcs2.trans hcs.symm, by show S1.wk + _ ≤ _; omega⟩⟩
        have hf2 : ({ S1 with cs := rst (K.inn (f.node + 1) (K.bh f.node)) (emW (K.inn (f.node + 1) (K.bh f.node)) S.cs) S1.cs } : SS).fuel = S1.fuel := rfl
        obtain ⟨b, S', ev2, res2⟩ := rndL_ok hK hΦ hp hbrk hes h1 hj hN hc k (by omega) _ (hx.trans xx) (res.inv.same rfl rfl rfl) hcs2 (Nat.le_trans hu xx.le) (by omega)
        refine ⟨b, S', .rndLNo hxx (fun h => hB ((hbrk _).1 h)) ev ev2, (resA.seq res2).sem ?_⟩
        rw [List.findSome?_cons, if_neg hB, r1]
        dsimp only
        refine fs_congr fun e _ => ?_
        split
        · rfl
        · rw [hI.kont resA.inv xx hu]
theorem sr_rnd (hK : K.ok N) {x y : Nd} {js : F} {had i j : Nat} {c : Caps} {Z : List Caps} {k : Nat} {es : List Nat} {L : Nat → List Caps} {kN : Nat → Nat} {R : Nat → Caps → List Caps} {kR : Nat → Caps → Nat} (hes : es = rEs x had i j)
    (h1 : ∀ e, e ∈ es → NodeTgt K N y js i e (emp (F.nd y js .nil).flat c) (L e) (kN e)) (h2 : ∀ e, e ∈ es → ∀ c1, c1 ∈ L e → RndTgt K N x y js (had + 1) e j c1 (R e c1) (kR e c1)) (hz : ∀ e, e ∈ es → ∀ c1, c1 ∈ L e → ∀ d, d ∈ R e c1 → d ∈ Z) (hz2 : i = j → x.mn ≤ (had : Int) → c ∈ Z) (hk : sumW es L kN kR ≤ k) : RndTgt K N x y js had i j c Z k := by
  intro f e0 S Φ hp ho hkid ht hij hj hc hI hcs hup hΦ hN hfu
  obtain ⟨hx, hpk, _⟩ := hp.head
  have hrf := rep_flds hp.wf.1 ho
  have hmx : x.mx = -1 ∨ 0 ≤ x.mx := by omega
  have hM : (x.mx < 0 ∨ (f.kid : Int) < x.mx) ↔ (x.mx = -1 ∨ (had : Int) < x.mx) := by rw [hkid]; unfold capK; split <;> omega
  have hM2 : (x.mx = -1 ∨ (f.kid : Int) < x.mx) ↔ (x.mx = -1 ∨ (had : Int) < x.mx) := by rw [hkid]; unfold capK; split <;> omega
  have hmn : x.mn ≤ (f.kid : Int) ↔ x.mn ≤ (had : Int) := by rw [hkid]; unfold capK; split <;> omega
  have h0k : 0 < f.kid ↔ 0 < had := by rw [hkid]; unfold capK; split <;> omega
  have hbrk : ∀ e, brk x f i e ↔ brkH x had i e := fun e => by unfold brk brkH; rw [hmn, h0k]
  have hfo : foAt K.re (f.node + 1) 1 = .nd y js .nil := by have h := foAt_eq hpk; rwa [show (F.nd y js .nil).num = 1 by simp [F.num]] at h
  have hkb : ∀ e, i ≤ e → K.kidsB f.node i e c = LF1 K.w y js i e (emp (F.nd y js .nil).flat c) := fun e he => by
    unfold SrE.kidsB
    rw [hfo, LF_one, if_pos he]
  -- the end: none more
  have tail : ∀ S2, Ext S S2 → Inv K N S2 → S2.cs = noS :: c → Φ S2 ≤ S2.fuel → ∀ (he : i = f.to ∧ x.mn ≤ (f.kid : Int)), ∃ b S', Ev K S2 (.next f.up i) b S' ∧ Res K N S2 S' b (K.kont S2.fs f.up j c) 0 Φ := fun S2 x2 I2 hcs2 hfu2 he => by
    have hij2 : i = j := by omega
    rw [hij2]
    exact hN S2 c x2 I2 (hz2 hij2 (hmn.1 he.2)) hc hcs2 hfu2
  by_cases hm : x.mx = -1 ∨ (had : Int) < x.mx
  · generalize hpu : S.push { f with kid := satK x f.kid } = pr
    obtain ⟨u, S2⟩ := pr
    obtain ⟨x2, Ip, q, rfl, hf0⟩ := push_spec hpu hI hup
    obtain ⟨_, p2, p3, p4, _, _⟩ := SS.push_sz hpu
    have hΦ2 := hΦ _ _ x2
    have hes2 : es = (ends i j).filter (fun e => decide (¬ brkH x had i e)) := by rw [hes]; unfold rEs; rw [if_pos hm]; rfl
    have hin : ∀ e ∈ es, i ≤ e ∧ e ≤ j := fun e he => by
      rw [hes2, List.mem_filter] at he
      exact mem_ends.1 he.1
    have hsem : ∀ S3, Ext S2 S3 → Inv K N S3 → ∀ e c1, K.kont S3.fs (q + 1) e c1 = (RLf x (K.kidsB f.node) j (satK x f.kid) e c1).findSome? (K.kont S3.fs f.up j) := fun S3 x3 I3 e c1 => by
      rw [SrE.kont_succ I3.ch (x3.get hf0) hx, if_neg (by omega), if_pos ho]
      dsimp only
      rw [ht]
    have hNx : ∀ e, e ∈ es → NextOK K N S2 (q + 1) e (L e) (fun S => Φ S + pend K (q + 1) es L kR S) := fun e he => frame_ok (N := N) hK.ref hΦ hf0 (fun e he c1 hc1 S3 x3 I3 hk3 hcs3 hfu3 => by
      obtain ⟨i1, i2⟩ := hin e he
      obtain ⟨b, S', ev, res⟩ := h2 e he c1 hc1 { f with kid := satK x f.kid } _ S3 Φ hp ho (by dsimp only; rw [hkid, satK_cap]) ht i2 hj hk3 I3 hcs3 (Nat.le_trans hup (x2.trans x3).le) hΦ (hN.mono (x2.trans x3) (hz e he c1 hc1)) hfu3
      exact ⟨b, S', .bodyRep hx ho ev, res.lift .refl (hsem S3 x3 I3 e c1).symm rfl (Nat.le_refl _) fun _ => Nat.le_refl _⟩) he
    have hA : Anti (fun S => Φ S + pend K (q + 1) es L kR S) := fun S S' h => Nat.add_le_add (hΦ _ _ h) (pend_anti _ _ h)
    have hps := pend_sumW (K := K) (u := q + 1) (kN := kN) (L := L) (kR := kR) (S := S2) (es := es)
    have hq := (List.getElem?_eq_some_iff.1 hf0).1
    have hcs2 : S2.cs = noS :: c := p4.trans hcs
    have hall : (RLf x (K.kidsB f.node) j f.kid i c).findSome? (K.kont S.fs f.up j) = (((ends i j).findSome? fun e => if brkH x had i e then none else (LF1 K.w y js i e (emp (F.nd y js .nil).flat c)).findSome? (K.kont S2.fs (q + 1) e)).or ((if i = j ∧ x.mn ≤ (f.kid : Int) then [c] else []).findSome? (K.kont S.fs f.up j))) := by
      rw [RLf_eq, List.findSome?_append, if_pos (hM2.2 hm), fs_flat]
      congr 1
      refine fs_congr fun e he => ?_
      have he2 := mem_ends.1 he
      by_cases hb : brkH x had i e
      · rw [if_pos hb, if_pos ⟨hb.1, hmn.2 hb.2.1, h0k.2 hb.2.2⟩]; rfl
      · rw [if_neg hb, if_neg (fun h => hb ⟨h.1, hmn.1 h.2.1, h0k.1 h.2.2⟩), fs_flat, hkb e he2.1]
        congr 1
        funext c1
        rw [hsem S2 .refl Ip, hI.kont Ip x2 hup, RLf_sat hmx]
    have hem : ends i j = down i (j + 1 - i) := rfl
    rw [hes2] at hps
    obtain ⟨b, S3, ev, res⟩ := rndL_ok (j := j) hK hA hp hbrk (fun e a1 a2 a3 => by rw [hes2, List.mem_filter]; exact ⟨mem_ends.2 ⟨a1, a2⟩, by simpa using a3⟩) h1 hj hNx hc (j + 1 - i) (by omega) S2 .refl Ip hcs2 (by omega) (by rw [← hem]; rw [hes2] at hk ⊢; omega)
    rw [← hem] at res ev
    have res2 := res.lift (S := S) (sem := _) (k := k) (Φ := Φ) x2 rfl p4 (by rw [hes2] at hk ⊢; omega) fun S' => Nat.le_add_right _ _
    have hev : Ev K S2 (.rndL f (q + 1) i (ends i f.to)) b S3 := by rw [ht]; exact ev
    cases b with
    | true =>
      refine ⟨true, S3, .rndYes hx (hM.2 hm) hpu hev, res2.inv, res2.ext, fun _ => ?_, fun h => (by cases h)⟩
      obtain ⟨r', r1, r2, r3, r4⟩ := res2.yes rfl
      exact ⟨r', by rw [hall, r1]; rfl, r2, r3, r4⟩
    | false =>
      obtain ⟨r1, r2, r3⟩ := res2.no rfl
      have hgr := hev.grow
      by_cases he : i = f.to ∧ x.mn ≤ (f.kid : Int)
      · obtain ⟨b, S', ev2, res3⟩ := tail S3 res2.ext res2.inv (r2.trans hcs) (by omega) he
        refine ⟨b, S', .rndEnd hx (hM.2 hm) hpu hev he ev2, ((res2.seq res3).sem ?_).lift .refl rfl rfl (Nat.le_refl _) fun _ => Nat.le_refl _⟩
        rw [hall, r1, if_pos (by rw [← ht]; exact he), fs_one, hI.kont res2.inv res2.ext hup]; rfl
      · exact ⟨false, S3, .rndNo hx (hM.2 hm) hpu hev he, res2.sem (by rw [hall, r1, if_neg (by rw [← ht]; exact he)]; rfl)⟩
  · have hall : (RLf x (K.kidsB f.node) j f.kid i c).findSome? (K.kont S.fs f.up j) = ((if i = j ∧ x.mn ≤ (f.kid : Int) then [c] else []).findSome? (K.kont S.fs f.up j)) := by
      rw [RLf_eq, if_neg (fun h => hm (hM2.1 h)), List.nil_append]
    by_cases he : i = f.to ∧ x.mn ≤ (f.kid : Int)
    · obtain ⟨b, S', ev2, res3⟩ := tail S .refl hI hcs (by omega) he
      refine ⟨b, S', .rnd0End hx (fun h => hm (hM.1 h)) he ev2, res3.lift .refl ?_ rfl (by omega) fun _ => Nat.le_refl _⟩
      rw [hall, if_pos (by rw [← ht]; exact he), fs_one]
    · exact ⟨false, S, .rnd0No hx (fun h => hm (hM.1 h)) he, hI, .refl, fun h => (by cases h), fun _ => ⟨by rw [hall, if_neg (by rw [← ht]; exact he)]; rfl, rfl, by omega⟩⟩
def SrTgt (K : SrE) (N : Nat) : TQ → List Caps → Nat → Prop
  | .node x ks i j c, Z, k => NodeTgt K N x ks i j c Z k
  | .alt g i j c, Z, k => AltTgt K N g i j c Z k
  | .row g i j c, Z, k => RowTgt K N g i j c Z k
  | .rnd x y js had i j c, Z, k => RndTgt K N x y js had i j c Z k
theorem ct_ok (hK : K.ok N) {q : TQ} {Z : List Caps} {k : Nat} (h : Ct K.w.length q Z k) : SrTgt K N q Z k := by
  induction h with
  | leaf ho hz hk => exact sr_leaf hK ho hz hk
  | cat ho _ hk ih => exact sr_cat hK ho ih hk
  | rep ho _ hk ih => exact sr_rep hK ho ih hk
  | grp ho _ hz hk ih => exact sr_grp hK ho ih hz hk
  | altC ho _ hk ih => exact sr_altC ho ih hk
  | altNil => exact sr_altNil
  | altCons _ _ hz1 hz2 hk ih1 ih2 => exact sr_altCons ih1 ih2 hz1 hz2 hk
  | rowNil hz => exact sr_rowNil hz
  | rowCons hes _ _ hz hk ih1 ih2 => exact sr_rowCons hK hes ih1 ih2 hz hk
  | rnd hes _ _ hz hz2 hk ih1 ih2 => exact sr_rnd hK hes ih1 ih2 hz hz2 hk
/-- the search from one place to another -/
theorem take_ok (hK : K.ok N) {x : Nd} {ks : F} {e0 i j : Nat} {c : Caps} {Z : List Caps} {k : Nat} (h : Ct K.w.length (.node x ks i j c) Z k) (hp : Part K.re (.nd x ks .nil) 0 e0) (hij : i ≤ j) (hj : j ≤ K.w.length) (hc : CapOk K N c) {S : SS} (hI : Inv K N S) (hcs : S.cs = noS :: c) (hf : k ≤ S.fuel) :
    ∃ b S', Ev K S (.take 0 i j 0) b S' ∧ Inv K N S' ∧ S'.wk ≤ S.wk + k ∧ (b = true → ∃ r, (LF1 K.w x ks i j c).head? = some r ∧ CapOk K N r ∧ S'.cs = noS :: r) ∧ (b = false → LF1 K.w x ks i j c = [] ∧ S'.cs = S.cs) := by
  have hT : NodeTgt K N x ks i j c Z k := ct_ok hK h
  obtain ⟨b, S', ev, res⟩ := hT 0 e0 S 0 (fun _ => 0) hp hij hj hc hI hcs (Nat.zero_le _) (fun _ _ _ => Nat.le_refl _) (fun S1 c1 _ I1 _ hk1 hcs1 _ => ⟨true, S1, .nextZero, I1, .refl, fun _ => ⟨c1, rfl, hk1, hcs1, by omega⟩, fun h => (by cases h)⟩) (by omega)
  have hk0 : K.kont S.fs 0 j = some := by funext c1; exact SrE.kont_zero
  have hh : ∀ l : List Caps, l.findSome? some = l.head? := fun l => by cases l <;> rfl
  rw [hk0, hh] at res
  refine ⟨b, S', ev, res.inv, ?_, fun hb => ?_, fun hb => ?_⟩
  · cases b with
    | true => obtain ⟨_, _, _, _, h⟩ := res.yes rfl; omega
    | false => obtain ⟨_, _, h⟩ := res.no rfl; omega
  · obtain ⟨r, r1, r2, r3, _⟩ := res.yes hb
    exact ⟨r, r1, r2, r3⟩
  · obtain ⟨r1, r2, _⟩ := res.no hb
    exact ⟨List.head?_eq_none_iff.1 r1, r2⟩
end
end Go.HL.Kl.Mc
namespace Go.HL.Kl.Mc
open Go Go.HL Go.HL.Kl
section
variable {P : Program} {κ : Cx} {L : Loc} {H : Hp} {ty t t' : TypeId} {x y : Operand}
theorem sp_fq {e : Nat} [TU P e (.int .i64)] [TG P e true] (w : World) (p q : Sp) : FQ P w 9998 (Esp p).toArray (Esp q).toArray [(e, 0), (e, 1)] (decide (p = q)) := by
  have h : FQ P w 9998 (Esp p).toArray (Esp q).toArray [(e, 0), (e, 1)] _ :=
    .int (j := .i64) (p := p.fr) (q := q.fr) rfl rfl (.int (j := .i64) (p := p.to) (q := q.to) rfl rfl .nil)
  have e : (p.fr == q.fr && (p.to == q.to && true)) = decide (p = q) := by
    cases p; cases q
    simp only [Sp.mk.injEq, Bool.and_true]
    rw [Bool.eq_iff_iff]
    simp
  rw [← e]; exact h
theorem s_eql_sp {e : Nat} [EG P t] [TU P e (.int .i64)] [TG P e true] [Go.HL.TQ P t [(e, 0), (e, 1)]] {p q : Sp} (hx : ev L x = some (.agg (Esp p).toArray)) (hy : ev L y = some (.agg (Esp q).toArray)) : Step P κ (.binOp .eql t x y t') ty L H (.bool (decide (p = q))) :=
  s_eql_st hx hy fun w => sp_fq w p q
theorem s_neq_sp {e : Nat} [EG P t] [TU P e (.int .i64)] [TG P e true] [Go.HL.TQ P t [(e, 0), (e, 1)]] {p q : Sp} (hx : ev L x = some (.agg (Esp p).toArray)) (hy : ev L y = some (.agg (Esp q).toArray)) : Step P κ (.binOp .neq t x y t') ty L H (.bool (!decide (p = q))) :=
  s_neq_st hx hy fun w => sp_fq w p q
end
end Go.HL.Kl.Mc
namespace Go.Proofs.YtloepfcndglmmaaDoor
open Go Go.HL Go.Proofs Go.HL.Kl Go.HL.Kl.Mc Go.HL.Kl.Mc.AskE
instance q134 : TQ Tryd.prog 134 [(3, 0), (3, 1), (3, 2), (3, 3), (45, 4)] := ⟨by kernel_rfl⟩
instance q187 : TQ Tryd.prog 187 [(3, 0), (3, 1), (3, 2)] := ⟨by kernel_rfl⟩
instance q201 : TQ Tryd.prog 201 [(3, 0), (199, 1)] := ⟨by kernel_rfl⟩
instance k45 : QK Tryd.prog 45 true 2 2 := QK.struct (l := [(3, 0), (3, 1)]) (Nat.le_refl _) (.cons (QK.int (t := 3)) (Nat.le_refl _) (.cons (QK.int (t := 3)) (Nat.le_refl _) .nil))
instance k134 : QK Tryd.prog 134 true 3 6 := QK.struct (l := [(3, 0), (3, 1), (3, 2), (3, 3), (45, 4)]) (by decide) (.cons (QK.int (t := 3)) (by decide) (.cons (QK.int (t := 3)) (by decide) (.cons (QK.int (t := 3)) (by decide) (.cons (QK.int (t := 3)) (by decide) (.cons k45 (by decide) .nil)))))
instance k187 : QK Tryd.prog 187 true 2 3 := QK.struct (l := [(3, 0), (3, 1), (3, 2)]) (Nat.le_refl _) (.cons (QK.int (t := 3)) (Nat.le_refl _) (.cons (QK.int (t := 3)) (Nat.le_refl _) (.cons (QK.int (t := 3)) (Nat.le_refl _) .nil)))
instance k199 : QK Tryd.prog 199 true 3 8 := QK.arr (m := 4) (e := 45) (se := 2) k45
instance k201 : QK Tryd.prog 201 true 4 9 := QK.struct (l := [(3, 0), (199, 1)]) (by decide) (.cons (QK.int (t := 3)) (by decide) (.cons k199 (by decide) .nil))
/-! keys as numbers -/
def FrI (f : Frm) : List Int := [f.up, f.node, f.kid, f.left, f.fr, f.to]
def TkI (t : Tk) : List Int := (t.ahead : Int) :: t.h.flatMap fun s => [s.fr, s.to]
def PtI (p : Pt) : List Int := [p.u, p.at_, p.tk]
def Efr (f : Frm) : List Value := [.int .i64 (f.up : Nat), .int .i64 (f.node : Nat), .int .i64 (f.kid : Nat), .int .i64 (f.left : Nat), .int .i64 (f.fr : Nat), .int .i64 (f.to : Nat)]
instance : Enc Efr 6 := ⟨fun _ => rfl, fun x v hv => by
  simp only [Efr, List.mem_cons, List.not_mem_nil, or_false] at hv
  rcases hv with rfl | rfl | rfl | rfl | rfl | rfl <;> rfl⟩
def EkF (f : Frm) : Value := .agg (intsV .i64 (FrI f)).toArray
def EkP (p : Pt) : Value := .agg (intsV .i64 (PtI p)).toArray
/-- takings with four spans -/
structure Tk4 where
  t : Tk
  h4 : t.h.length = 4
def EkT (t : Tk4) : Value := .agg (intsV .i64 (TkI t.t)).toArray
instance : DecidableEq Tk4 := fun a b => decidable_of_iff (a.t = b.t) ⟨fun h => by cases a; cases b; cases h; rfl, fun h => by rw [h]⟩
theorem struct_of {t : Nat} {l : List (Nat × Nat)} [TQ Tryd.prog t l] : ∃ fs, Tryd.prog.underlying t = some (.struct fs) := by
  obtain ⟨fs, h, _⟩ := ky_struct (P := Tryd.prog) (t := t) (l := l)
  exact ⟨fs, h⟩
instance keF : KE Tryd.prog 134 EkF := KE.of (Ei := FrI) (fun _ => rfl) (fun a b h => by
  cases a; cases b
  simp only [FrI, List.cons.injEq, Int.ofNat_inj, and_true] at h
  simp only [Frm.mk.injEq]; exact h) (by decide) struct_of
instance keP : KE Tryd.prog 187 EkP := KE.of (Ei := PtI) (fun _ => rfl) (fun a b h => by
  cases a; cases b
  simp only [PtI, List.cons.injEq, Int.ofNat_inj, and_true] at h
  simp only [Pt.mk.injEq]; exact h) (by decide) struct_of
theorem TkI_len (t : Tk4) : (TkI t.t).length = 9 := by
  obtain ⟨⟨a, h⟩, h4⟩ := t
  match h, h4 with
  | [s1, s2, s3, s4], _ => rfl
instance keT : KE Tryd.prog 201 EkT := KE.of (Ei := fun t : Tk4 => TkI t.t) TkI_len (fun a b h => by
  obtain ⟨⟨a1, ha⟩, h4⟩ := a
  obtain ⟨⟨b1, hb⟩, h5⟩ := b
  match ha, h4, hb, h5 with
  | [⟨a2, a3⟩, ⟨a4, a5⟩, ⟨a6, a7⟩, ⟨a8, a9⟩], _, [⟨b2, b3⟩, ⟨b4, b5⟩, ⟨b6, b7⟩, ⟨b8, b9⟩], _ =>
    simp only [TkI, List.flatMap_cons, List.flatMap_nil, List.cons_append, List.nil_append, List.cons.injEq, Int.ofNat_inj, and_true] at h
    obtain ⟨rfl, rfl, rfl, rfl, rfl, rfl, rfl, rfl, rfl⟩ := h
    rfl) (by decide) struct_of
end Go.Proofs.YtloepfcndglmmaaDoor
namespace Go.HL.Kl.Mc
open Go Go.HL Go.HL.Kl AskE
theorem fnd_snoc {α : Type} [DecidableEq α] {a b : α} : ∀ {l : List α}, fnd b l = none → fnd a (l ++ [b]) = if a = b then some l.length else fnd a l
  | [], _ => by
    by_cases h : a = b
    · subst h; simp [fnd]
    · rw [if_neg h]; simp [fnd, Ne.symm h]
  | c :: l, hb => by
    unfold fnd at hb
    split at hb
    · cases hb
    · rename_i hcb
      rw [Option.map_eq_none_iff] at hb
      have ih := fnd_snoc (a := a) hb
      rw [List.cons_append]
      unfold fnd
      rw [ih]
      by_cases h : a = b
      · subst h
        rw [if_pos rfl, if_pos rfl, if_neg hcb]; rfl
      · rw [if_neg h, if_neg h]
theorem push_some {S : SS} {f : Frm} {k : Nat} (h : fnd f S.fs = some k) : S.push f = (k + 1, S) := by unfold SS.push; rw [h]
theorem push_none {S : SS} {f : Frm} (h : fnd f S.fs = none) : S.push f = (S.fs.length + 1, { S with fs := S.fs ++ [f] }) := by unfold SS.push; rw [h]
end Go.HL.Kl.Mc
namespace Go.Proofs.YtloepfcndglmmaaDoor
open Go Go.HL Go.Proofs Go.HL.Kl Go.HL.Kl.Mc Go.HL.Kl.Mc.AskE
structure BkE where
  (b : Nat) (ra : Option Addr) (rc : Nat) (re : List Nd) (ta : Option Addr) (tc : Nat) (w : List UInt8) (ba : Option Addr) (bc : Nat) (bl : List Nat) (xa : Option Addr) (xc : Nat) (R : List Nat) (bn bt bf : Nat) (sa : Option Addr) (sc N : Nat)
structure BkS where
  (S : SS) (fa : Option Addr) (fc : Nat) (Sf Ss : Hp) (en : List (Mx Frm)) (cn : Nat) (et : List (Mx Tk4)) (ct : Nat) (ef : List (Mx Pt)) (cf : Nat)
def zeroF : Frm := ⟨0, 0, 0, 0, 0, 0⟩
namespace BkE
def sr (K : BkE) : SrE := ⟨K.re, K.w, K.R⟩
def obj (K : BkE) (s : BkS) : Nat × Obj := (K.b, .cells [.slice K.ra K.re.length K.rc, .slice K.ta K.w.length K.tc, .slice K.ba K.bl.length K.bc, .slice K.xa K.R.length K.xc, .slice s.fa (zeroF :: s.S.fs).length s.fc, .map (some K.bn), .map (some K.bt), .map (some K.bf), .slice K.sa (K.N + 1) K.sc, .int .i64 (s.S.fuel : Nat), .bool false].toArray 103 (0, 0))
def H (K : BkE) (s : BkS) : Hp := K.obj s :: (K.bn, mxO EkF s.en s.cn) :: (K.bt, mxO EkT s.et s.ct) :: (K.bf, mxO EkP s.ef s.cf) :: (s.Sf ++ s.Ss)
/-- what lies in memory is the state -/
structure Rep (K : BkE) (s : BkS) : Prop where
  fr : OwnS Efr 6 134 (.slice s.fa (zeroF :: s.S.fs).length s.fc) (zeroF :: s.S.fs) s.Sf
  sp : OwnS Esp 2 45 (.slice K.sa (K.N + 1) K.sc) s.S.cs s.Ss
  cl : s.S.cs.length = K.N + 1
  en : ∀ f, getM s.en f = (fnd f s.S.fs).map fun k => .int .i64 ((k + 1 : Nat) : Int)
  et : ∀ t : Tk4, getM s.et t = (fnd t.t s.S.ts).map fun k => .int .i64 ((k + 1 : Nat) : Int)
  el : s.et.length = s.S.ts.length
  ef : ∀ p, getM s.ef p = if p ∈ s.S.F then some (.bool true) else none
/-- what a call reads beside its own -/
structure Env (K : BkE) (W : World) (M : List Nat) : Prop where
  d1 : Rd En W (.slice K.ra K.re.length K.rc) K.re
  a1 : Apart M (.slice K.ra K.re.length K.rc)
  d2 : Rd Eb W (.slice K.ta K.w.length K.tc) K.w
  a2 : Apart M (.slice K.ta K.w.length K.tc)
  d3 : Rd Eix W (.slice K.ba K.bl.length K.bc) K.bl
  a3 : Apart M (.slice K.ba K.bl.length K.bc)
  d4 : Rd Eix W (.slice K.xa K.R.length K.xc) K.R
  a4 : Apart M (.slice K.xa K.R.length K.xc)
  g : RdP W 0 0 (Esp noS)
  ga : 0 ∉ M
theorem Env.out {K : BkE} {w0 w : World} {M : List Nat} {H S : Hp} (h : K.Env w0 M) (st : St w0 w M H) (hin : HIn S H) : K.Env w (keys S) :=
  ⟨(RdK.old (κ := ⟨0, [], w0, M⟩) (H := H) h.d1 h.a1).out w st, st.apart_M hin h.d1 h.a1 (by decide), (RdK.old (κ := ⟨0, [], w0, M⟩) (H := H) h.d2 h.a2).out w st, st.apart_M hin h.d2 h.a2 (by decide),
    (RdK.old (κ := ⟨0, [], w0, M⟩) (H := H) h.d3 h.a3).out w st, st.apart_M hin h.d3 h.a3 (by decide), (RdK.old (κ := ⟨0, [], w0, M⟩) (H := H) h.d4 h.a4).out w st, st.apart_M hin h.d4 h.a4 (by decide),
    (RdPK.old (κ := ⟨0, [], w0, M⟩) (H := H) h.g h.ga).out w st, st.notin hin h.g (by simp [Esp]) h.ga⟩
end BkE
set_option maxHeartbeats 1000000 in
theorem pushK_fn (K : BkE) (s : BkS) (hR : K.Rep s) (f : Frm) (hfl : s.S.fs.length ≤ 1000000000000) : HL.Fn Tryd.prog 86 [pt K.b, .agg (Efr f).toArray] (fun _ => True) ((K.b, .cells [.slice K.ra K.re.length K.rc, .slice K.ta K.w.length K.tc, .slice K.ba K.bl.length K.bc, .slice K.xa K.R.length K.xc, .slice s.fa (zeroF :: s.S.fs).length s.fc, .map (some K.bn), .map (some K.bt), .map (some K.bf), .slice K.sa (K.N + 1) K.sc, .int .i64 (s.S.fuel : Nat), .bool false].toArray 103 (0, 0)) :: (K.bn, mxO EkF s.en s.cn) :: (K.bt, mxO EkT s.et s.ct) :: (K.bf, mxO EkP s.ef s.cf) :: (s.Sf ++ s.Ss)) (fun v S' => ∃ s', v = .int .i64 ((s.S.push f).1 : Nat) ∧ S' = ((K.b, .cells [.slice K.ra K.re.length K.rc, .slice K.ta K.w.length K.tc, .slice K.ba K.bl.length K.bc, .slice K.xa K.R.length K.xc, .slice s'.fa (zeroF :: s'.S.fs).length s'.fc, .map (some K.bn), .map (some K.bt), .map (some K.bf), .slice K.sa (K.N + 1) K.sc, .int .i64 (s'.S.fuel : Nat), .bool false].toArray 103 (0, 0)) :: (K.bn, mxO EkF s'.en s'.cn) :: (K.bt, mxO EkT s'.et s'.ct) :: (K.bf, mxO EkP s'.ef s'.cf) :: (s'.Sf ++ s'.Ss)) ∧ K.Rep s' ∧ s'.S = (s.S.push f).2 ∧ s'.Ss = s.Ss) := by
  refine fn_of Tryd.func86 rfl rfl rfl fun w0 hw => ?_
  have hfs := hR.fr.sl
  refine c_seq fun _ hK1 => ?_
  refine c_region ?_
  refine o_box rfl rfl rfl fun b3 => ?_
  refine o_step rfl (s_assign rfl) ?_
  refine o_nil ?_
  refine x_then (hK1 _ _ ?_)
  refine c_seq fun _ hK2 => ?_
  refine c_quiet (by kernel_rfl) ?_
  refine .op rfl (s_move rfl) ?_
  refine .op rfl (s_nil rfl) ?_
  refine .op rfl (s_field rfl rfl (by decide)) ?_
  refine .op rfl (s_ld rfl (.own meA rfl)) ?_
  refine .op rfl (s_ldB rfl (RdPK.cels (.own meA)) lnA) ?_
  refine .op rfl (s_look2k (Ek := EkF) (k := f) rfl rfl meA) ?_
  refine .op rfl (s_move rfl) ?_
  refine .op rfl (s_extract rfl rfl) ?_
  by_cases hs : (fnd f s.S.fs).isSome = true
  ·
   obtain ⟨k, hk⟩ := Option.isSome_iff_exists.1 hs
   have hpu := push_some hk
   refine .op rfl (step_cast (v' := .bool true) (s_extract rfl rfl) (by show Value.bool (getM s.en f).isSome = _; rw [hR.en f, hk]; rfl)) ?_
   refine .op rfl (s_assign rfl) ?_
   refine .op rfl (s_assign rfl) ?_
   refine .nil ?_
   refine x_then (hK2 _ _ ?_)
   refine c_seq fun _ hK3 => ?_
   refine c_seq fun _ hK4 => ?_
   refine c_region ?_
   refine o_step rfl (s_move rfl) ?_
   refine o_step rfl (s_not rfl) ?_
   refine o_nil ?_
   refine x_then (hK4 _ _ ?_)
   refine c_false rfl ?_
   refine c_skip ?_
   refine x_then (hK3 _ _ ?_)
   refine c_seq fun _ hK5 => ?_
   refine c_region ?_
   refine o_step rfl (s_move rfl) ?_
   refine o_step rfl (s_assign rfl) ?_
   refine o_nil ?_
   refine x_then (hK5 _ _ ?_)
   refine c_ret ?_
   refine ?_
   refine x_sub (Sub.refl _) (H' := ((K.b, .cells [.slice K.ra K.re.length K.rc, .slice K.ta K.w.length K.tc, .slice K.ba K.bl.length K.bc, .slice K.xa K.R.length K.xc, .slice s.fa (zeroF :: s.S.fs).length s.fc, .map (some K.bn), .map (some K.bt), .map (some K.bf), .slice K.sa (K.N + 1) K.sc, .int .i64 (s.S.fuel : Nat), .bool false].toArray 103 (0, 0)) :: (K.bn, mxO EkF s.en s.cn) :: (K.bt, mxO EkT s.et s.ct) :: (K.bf, mxO EkP s.ef s.cf) :: (s.Sf ++ s.Ss))) hzB ?_
   exact x_ret rfl (.tmp rfl (.nil)) (⟨s, by rw [hpu]; show (getM s.en f).getD _ = _; rw [hR.en f, hk]; rfl, rfl, hR, by rw [hpu], rfl⟩)
  ·
   have hk : fnd f s.S.fs = none := by simpa using hs
   have hpu := push_none hk
   refine .op rfl (step_cast (v' := .bool false) (s_extract rfl rfl) (by show Value.bool (getM s.en f).isSome = _; rw [hR.en f, hk]; rfl)) ?_
   refine .op rfl (s_assign rfl) ?_
   refine .op rfl (s_assign rfl) ?_
   refine .nil ?_
   refine x_then (hK2 _ _ ?_)
   refine c_seq fun _ hK6 => ?_
   refine c_seq fun _ hK7 => ?_
   refine c_region ?_
   refine o_step rfl (s_move rfl) ?_
   refine o_step rfl (s_not rfl) ?_
   refine o_nil ?_
   refine x_then (hK7 _ _ ?_)
   refine c_true rfl ?_
   refine c_seq fun _ hK8 => ?_
   refine c_region ?_
   refine o_step rfl (s_move rfl) ?_
   refine o_step rfl (s_nil rfl) ?_
   refine o_step rfl (s_field rfl rfl (by decide)) ?_
   refine o_step rfl (s_ld rfl (.own meA rfl)) ?_
   refine o_step rfl (s_len rfl) ?_
   refine o_step rfl (s_assign rfl) ?_
   refine o_nil ?_
   refine x_then (hK8 _ _ ?_)
   refine c_seq fun _ hK9 => ?_
   refine c_tail 6 (by kernel_rfl) ?_
   refine .op rfl (s_move rfl) ?_
   refine .op rfl (s_nil rfl) ?_
   refine .op rfl (s_field rfl rfl (by decide)) ?_
   refine .op rfl (s_ld rfl (.own meA rfl)) ?_
   refine .op rfl (s_ldB rfl (RdPK.cels (.own meA)) lnA) ?_
   refine .op rfl (s_move rfl) ?_
   refine .nil ?_
   refine o_mset2 (Ek := EkF) (k := f) rfl rfl rfl pkA fun en' cn' hen' hel' => ?_
   refine o_nil ?_
   refine x_then (hK9 _ _ ?_)
   refine c_drawE ([(K.b, .cells [.slice K.ra K.re.length K.rc, .slice K.ta K.w.length K.tc, .slice K.ba K.bl.length K.bc, .slice K.xa K.R.length K.xc, .slice s.fa (zeroF :: s.S.fs).length s.fc, .map (some K.bn), .map (some K.bt), .map (some K.bf), .slice K.sa (K.N + 1) K.sc, .int .i64 (s.S.fuel : Nat), .bool false].toArray 103 (0, 0)), (b3, .cells (Efr f).toArray 134 (0, 0))]) (fun i => Nat.beq i 10) ?_
   refine e_pure 0 rfl (by kernel_rfl) (by kernel_rfl) (by kernel_rfl) rfl (s_move rfl) ?_
   refine e_pure 1 rfl (by kernel_rfl) (by kernel_rfl) (by kernel_rfl) rfl (s_move rfl) ?_
   refine e_pure 2 rfl (by kernel_rfl) (by kernel_rfl) (by kernel_rfl) rfl (s_nil rfl) ?_
   refine e_pure 3 rfl (by kernel_rfl) (by kernel_rfl) (by kernel_rfl) rfl (s_field rfl rfl (by decide)) ?_
   refine e_take 4 rfl (by kernel_rfl) (by kernel_rfl) (by kernel_rfl) (by kernel_rfl) (fun _ _ => rfl) rfl hzB (s_ld rfl (.own meA rfl)) ?_
   refine e_take 5 rfl (by kernel_rfl) (by kernel_rfl) (by kernel_rfl) (by kernel_rfl) (fun _ _ => rfl) rfl hzB (s_ldB rfl (RdPK.cels (.own meA)) lnA) ?_
   refine e_one 6 rfl (by kernel_rfl) ?_
   refine o_bs (E := Efr) (xs := [f]) (vs := [_]) rfl rfl rfl rfl rfl (by decide) (by decide) fun b35 S35 hS35 => ?_
   refine o_nil ?_
   refine x_oneS hzB ?_
   refine e_one 7 rfl (by kernel_rfl) ?_
   refine o_app hR.fr (hS35.rdk hiA) rfl rfl rfl rfl (by simp; omega) (by simp; omega) rfl pkA fun a36 c36 S36 hS36 => ?_
   refine o_nil ?_
   refine x_oneS hzB ?_
   refine e_one 8 rfl (by kernel_rfl) ?_
   refine o_step rfl (s_nil rfl) ?_
   refine o_nil ?_
   refine x_oneS hzB ?_
   refine e_one 9 rfl (by kernel_rfl) ?_
   refine o_step rfl (s_field rfl rfl (by decide)) ?_
   refine o_nil ?_
   refine x_oneS hzB ?_
   refine e_one 10 rfl (by kernel_rfl) ?_
   refine o_store rfl rfl rfl upA ltA rfl ?_
   refine o_nil ?_
   refine x_oneL rfl ?_
   refine e_done (by kernel_rfl) ?_
   refine x_then (hK6 _ _ ?_)
   refine c_seq fun _ hK10 => ?_
   refine c_region ?_
   refine o_step rfl (s_move rfl) ?_
   refine o_step rfl (s_assign rfl) ?_
   refine o_nil ?_
   refine x_then (hK10 _ _ ?_)
   refine c_ret ?_
   refine ?_
   refine x_sub (Sub.refl _) (H' := ((K.b, .cells [.slice K.ra K.re.length K.rc, .slice K.ta K.w.length K.tc, .slice K.ba K.bl.length K.bc, .slice K.xa K.R.length K.xc, .slice ({ s with S := { s.S with fs := s.S.fs ++ [f] }, fa := a36, fc := c36, Sf := S36, en := en', cn := cn' } : BkS).fa (zeroF :: ({ s with S := { s.S with fs := s.S.fs ++ [f] }, fa := a36, fc := c36, Sf := S36, en := en', cn := cn' } : BkS).S.fs).length ({ s with S := { s.S with fs := s.S.fs ++ [f] }, fa := a36, fc := c36, Sf := S36, en := en', cn := cn' } : BkS).fc, .map (some K.bn), .map (some K.bt), .map (some K.bf), .slice K.sa (K.N + 1) K.sc, .int .i64 (({ s with S := { s.S with fs := s.S.fs ++ [f] }, fa := a36, fc := c36, Sf := S36, en := en', cn := cn' } : BkS).S.fuel : Nat), .bool false].toArray 103 (0, 0)) :: (K.bn, mxO EkF ({ s with S := { s.S with fs := s.S.fs ++ [f] }, fa := a36, fc := c36, Sf := S36, en := en', cn := cn' } : BkS).en ({ s with S := { s.S with fs := s.S.fs ++ [f] }, fa := a36, fc := c36, Sf := S36, en := en', cn := cn' } : BkS).cn) :: (K.bt, mxO EkT ({ s with S := { s.S with fs := s.S.fs ++ [f] }, fa := a36, fc := c36, Sf := S36, en := en', cn := cn' } : BkS).et ({ s with S := { s.S with fs := s.S.fs ++ [f] }, fa := a36, fc := c36, Sf := S36, en := en', cn := cn' } : BkS).ct) :: (K.bf, mxO EkP ({ s with S := { s.S with fs := s.S.fs ++ [f] }, fa := a36, fc := c36, Sf := S36, en := en', cn := cn' } : BkS).ef ({ s with S := { s.S with fs := s.S.fs ++ [f] }, fa := a36, fc := c36, Sf := S36, en := en', cn := cn' } : BkS).cf) :: (({ s with S := { s.S with fs := s.S.fs ++ [f] }, fa := a36, fc := c36, Sf := S36, en := en', cn := cn' } : BkS).Sf ++ ({ s with S := { s.S with fs := s.S.fs ++ [f] }, fa := a36, fc := c36, Sf := S36, en := en', cn := cn' } : BkS).Ss))) hzB ?_
   exact x_ret rfl (.tmp rfl (.nil)) (⟨{ s with S := { s.S with fs := s.S.fs ++ [f] }, fa := a36, fc := c36, Sf := S36, en := en', cn := cn' }, by rw [hpu]; rfl, rfl, ⟨hS36, hR.sp, hR.cl, fun g => by show getM en' g = (fnd g (s.S.fs ++ [f])).map _; rw [hen' g, fnd_snoc hk, hR.en g]; split <;> rfl, hR.et, hR.el, hR.ef⟩, by rw [hpu], rfl⟩)
end Go.Proofs.YtloepfcndglmmaaDoor
