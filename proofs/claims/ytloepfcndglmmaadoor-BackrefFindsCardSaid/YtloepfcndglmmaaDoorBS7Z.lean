/- The search with back-references: repetitions; all of it. Conditions: none. -/
import Derived.Test.YtloepfcndglmmaaDoorBS4Z
import Derived.Test.YtloepfcndglmmaaDoorHM2Z
import Derived.Test.YtloepfcndglmmaaDoorMT23Z
import Derived.Test.YtloepfcndglmmaaDoorVA1Z
import Derived.Test.YtloepfcndglmmaaDoorHTZ
import Derived.Test.YtloepfcndglmmaaDoorHlB
namespace Go.HL.Kl.Mc
open Go Go.HL Go.HL.Kl AskE
theorem fs_congr {α : Type} {f g : α → Option Caps} : ∀ {l : List α}, (∀ a ∈ l, f a = g a) → l.findSome? f = l.findSome? g
  | [], _ => rfl
  | a :: l, h => by rw [List.findSome?_cons, List.findSome?_cons, h a List.mem_cons_self, fs_congr fun b hb => h b (List.mem_cons_of_mem _ hb)]
theorem RLf_sat {x : Nd} {B : Nat → Nat → Caps → List Caps} {q kid p : Nat} {c : Caps} (hx : x.mx = -1 ∨ 0 ≤ x.mx) : RLf x B q (satK x kid) p c = RLf x B q (kid + 1) p c := by
  unfold satK
  by_cases hm : x.mx < 0
  · rw [if_pos hm]
    rcases Nat.lt_or_ge (max x.mn.toNat 1) (kid + 1) with h | h
    · rw [Nat.min_eq_right (by omega)]
      exact RLf_cap (by omega) _ _ _ _ _ (Nat.le_refl _) (Nat.le_refl _) (by omega)
    · rw [Nat.min_eq_left h]
  · rw [if_neg hm]
section
variable {K : SrE} {N : Nat}
def brkH (x : Nd) (had i e : Nat) : Prop := e = i ∧ x.mn ≤ (had : Int) ∧ 0 < had
instance {x : Nd} {had i e : Nat} : Decidable (brkH x had i e) := by unfold brkH; infer_instance
theorem rndL_ok (hK : K.ok N) {f : Frm} {x y : Nd} {js : F} {e1 i j had : Nat} {c : Caps} {S0 : SS} {u : Nat} {Φ : SS → Nat} (hΦ : Anti Φ) (hp : Part K.re (.nd x (.nd y js .nil) .nil) f.node e1) (hbrk : ∀ e, brk x f i e ↔ brkH x had i e) {es : List Nat} {L : Nat → List Caps} {kN : Nat → Nat}
    (hes : ∀ e, i ≤ e → e ≤ j → ¬ brkH x had i e → e ∈ es) (h1 : ∀ e, e ∈ es → NodeTgt K N y js i e (emp (F.nd y js .nil).flat c) (L e) (kN e)) (hj : j ≤ K.w.length) (hN : ∀ e ∈ es, NextOK K N S0 u e (L e) Φ) (hc : CapOk K N c) :
    ∀ (k : Nat), i + k ≤ j + 1 → ∀ S, Ext S0 S → Inv K N S → S.cs = noS :: c → u ≤ S.fs.length → (((down i k).filter fun e => decide (¬ brkH x had i e)).map kN).sum + Φ S ≤ S.fuel →
    ∃ b S', Ev K S (.rndL f u i (down i k)) b S' ∧ Res K N S S' b ((down i k).findSome? fun e => if brkH x had i e then none else (LF1 K.w y js i e (emp (F.nd y js .nil).flat c)).findSome? (K.kont S.fs u e)) (((down i k).filter fun e => decide (¬ brkH x had i e)).map kN).sum Φ
  | 0, _, S, hx, hI, hcs, hu, hfu => ⟨false, S, .rndLNil, hI, .refl, fun h => (by cases h), fun _ => ⟨rfl, rfl, by simp [down]⟩⟩
  | k + 1, hkj, S, hx, hI, hcs, hu, hfu => by
    have hxx := hp.head.1
    rw [down] at hfu ⊢
    by_cases hB : brkH x had i (i + k)
    · have hk0 : k = 0 := by have := hB.1; omega
      subst hk0; refine ⟨false, S, .rndLBrk hxx ((hbrk _).2 hB), hI, .refl, fun h => (by cases h), fun _ => ⟨?_, rfl, ?_⟩⟩
      · rw [List.findSome?_cons, if_pos hB]; rfl
      · omega
    · have hfil : (((i + k) :: down i k).filter fun e => decide (¬ brkH x had i e)) = (i + k) :: (down i k).filter fun e => decide (¬ brkH x had i e) := by rw [List.filter_cons, if_pos (by simpa using hB)]
      rw [hfil, List.map_cons, List.sum_cons] at hfu ⊢
      have he := hes (i + k) (by omega) (by omega) hB
      have x1 : Ext S ({ S with cs := fgt (K.inn (f.node + 1) (K.bh f.node)) S.cs } : SS) := Ext.same rfl rfl rfl
      have hcs1 : fgt (K.inn (f.node + 1) (K.bh f.node)) S.cs = noS :: emp (F.nd y js .nil).flat c := by rw [hcs]; exact hK.emp hp c
      have hΦ1 := hΦ _ _ x1
      obtain ⟨b, S1, ev, res⟩ := h1 (i + k) he (f.node + 1) _ ({ S with cs := fgt (K.inn (f.node + 1) (K.bh f.node)) S.cs } : SS) u Φ hp.head.2.1 (by omega) (by omega) (hc.emp _) (hI.same rfl rfl rfl) hcs1 hu hΦ ((hN (i + k) he).mono (hx.trans x1) fun _ h => h) (by show _ ≤ S.fuel; omega)
      have hw1 : ({ S with cs := fgt (K.inn (f.node + 1) (K.bh f.node)) S.cs } : SS).wk = S.wk := rfl
      have hf1 : ({ S with cs := fgt (K.inn (f.node + 1) (K.bh f.node)) S.cs } : SS).fuel = S.fuel := rfl
      have hfs1 : ({ S with cs := fgt (K.inn (f.node + 1) (K.bh f.node)) S.cs } : SS).fs = S.fs := rfl
      cases b with
      | true =>
        refine ⟨true, S1, .rndLYes hxx (fun h => hB ((hbrk _).1 h)) ev, res.inv, x1.trans res.ext, fun _ => ?_, fun h => (by cases h)⟩
        obtain ⟨r', r1, r2, r3, r4⟩ := res.yes rfl
        rw [hfs1] at r1
        exact ⟨r', by rw [List.findSome?_cons, if_neg hB, r1], r2, r3, by omega⟩
      | false =>
        obtain ⟨r1, r2, r3⟩ := res.no rfl
        rw [hfs1] at r1
        have hgr := ev.grow
        have x2 : Ext S1 ({ S1 with cs := rst (K.inn (f.node + 1) (K.bh f.node)) (emW (K.inn (f.node + 1) (K.bh f.node)) S.cs) S1.cs } : SS) := Ext.same rfl rfl rfl
        have hΦ2 := hΦ _ _ x2
        have r2 : S1.cs = fgt (K.inn (f.node + 1) (K.bh f.node)) S.cs := r2
        have hcs2 : rst (K.inn (f.node + 1) (K.bh f.node)) (emW (K.inn (f.node + 1) (K.bh f.node)) S.cs) S1.cs = noS :: c := by rw [r2, hcs]; exact hK.rst hp hc.len
        have xx := x1.trans (res.ext.trans x2)
        have resA : Res K N S ({ S1 with cs := rst (K.inn (f.node + 1) (K.bh f.node)) (emW (K.inn (f.node + 1) (K.bh f.node)) S.cs) S1.cs } : SS) false none (kN (i + k)) Φ :=
          ⟨res.inv.same rfl rfl rfl, xx, fun h => (by cases h), fun _ => ⟨rfl, hcs2.trans hcs.symm, by show S1.wk + _ ≤ _; omega⟩⟩
        have hf2 : ({ S1 with cs := rst (K.inn (f.node + 1) (K.bh f.node)) (emW (K.inn (f.node + 1) (K.bh f.node)) S.cs) S1.cs } : SS).fuel = S1.fuel := rfl
        obtain ⟨b, S', ev2, res2⟩ := rndL_ok hK hΦ hp hbrk hes h1 hj hN hc k (by omega) _ (hx.trans xx) (res.inv.same rfl rfl rfl) hcs2 (Nat.le_trans hu xx.le) (by omega)
        refine ⟨b, S', .rndLNo hxx (fun h => hB ((hbrk _).1 h)) ev ev2, (resA.seq res2).sem ?_⟩
        rw [List.findSome?_cons, if_neg hB, r1]
        dsimp only
        refine fs_congr fun e _ => ?_
        split
        · rfl
        · rw [hI.kont resA.inv xx hu]
theorem sr_rnd (hK : K.ok N) {x y : Nd} {js : F} {had i j : Nat} {c : Caps} {Z : List Caps} {k : Nat} {es : List Nat} {L : Nat → List Caps} {kN : Nat → Nat} {R : Nat → Caps → List Caps} {kR : Nat → Caps → Nat} (hes : es = rEs x had i j)
    (h1 : ∀ e, e ∈ es → NodeTgt K N y js i e (emp (F.nd y js .nil).flat c) (L e) (kN e)) (h2 : ∀ e, e ∈ es → ∀ c1, c1 ∈ L e → RndTgt K N x y js (had + 1) e j c1 (R e c1) (kR e c1)) (hz : ∀ e, e ∈ es → ∀ c1, c1 ∈ L e → ∀ d, d ∈ R e c1 → d ∈ Z) (hz2 : i = j → x.mn ≤ (had : Int) → c ∈ Z) (hk : sumW es L kN kR ≤ k) : RndTgt K N x y js had i j c Z k := by
  intro f e0 S Φ hp ho hkid ht hij hj hc hI hcs hup hΦ hN hfu
  obtain ⟨hx, hpk, _⟩ := hp.head
  have hrf := rep_flds hp.wf.1 ho
  have hmx : x.mx = -1 ∨ 0 ≤ x.mx := by omega
  have hM : (x.mx < 0 ∨ (f.kid : Int) < x.mx) ↔ (x.mx = -1 ∨ (had : Int) < x.mx) := by rw [hkid]; unfold capK; split <;> omega
  have hM2 : (x.mx = -1 ∨ (f.kid : Int) < x.mx) ↔ (x.mx = -1 ∨ (had : Int) < x.mx) := by rw [hkid]; unfold capK; split <;> omega
  have hmn : x.mn ≤ (f.kid : Int) ↔ x.mn ≤ (had : Int) := by rw [hkid]; unfold capK; split <;> omega
  have h0k : 0 < f.kid ↔ 0 < had := by rw [hkid]; unfold capK; split <;> omega
  have hbrk : ∀ e, brk x f i e ↔ brkH x had i e := fun e => by unfold brk brkH; rw [hmn, h0k]
  have hfo : foAt K.re (f.node + 1) 1 = .nd y js .nil := by have h := foAt_eq hpk; rwa [show (F.nd y js .nil).num = 1 by simp [F.num]] at h
  have hkb : ∀ e, i ≤ e → K.kidsB f.node i e c = LF1 K.w y js i e (emp (F.nd y js .nil).flat c) := fun e he => by
    unfold SrE.kidsB
    rw [hfo, LF_one, if_pos he]
  -- the end: none more
  have tail : ∀ S2, Ext S S2 → Inv K N S2 → S2.cs = noS :: c → Φ S2 ≤ S2.fuel → ∀ (he : i = f.to ∧ x.mn ≤ (f.kid : Int)), ∃ b S', Ev K S2 (.next f.up i) b S' ∧ Res K N S2 S' b (K.kont S2.fs f.up j c) 0 Φ := fun S2 x2 I2 hcs2 hfu2 he => by
    have hij2 : i = j := by omega
    rw [hij2]
    exact hN S2 c x2 I2 (hz2 hij2 (hmn.1 he.2)) hc hcs2 hfu2
  by_cases hm : x.mx = -1 ∨ (had : Int) < x.mx
  · generalize hpu : S.push { f with kid := satK x f.kid } = pr
    obtain ⟨u, S2⟩ := pr
    obtain ⟨x2, Ip, q, rfl, hf0⟩ := push_spec hpu hI hup
    obtain ⟨_, p2, p3, p4, _, _⟩ := SS.push_sz hpu
    have hΦ2 := hΦ _ _ x2
    have hes2 : es = (ends i j).filter (fun e => decide (¬ brkH x had i e)) := by rw [hes]; unfold rEs; rw [if_pos hm]; rfl
    have hin : ∀ e ∈ es, i ≤ e ∧ e ≤ j := fun e he => by
      rw [hes2, List.mem_filter] at he
      exact mem_ends.1 he.1
    have hsem : ∀ S3, Ext S2 S3 → Inv K N S3 → ∀ e c1, K.kont S3.fs (q + 1) e c1 = (RLf x (K.kidsB f.node) j (satK x f.kid) e c1).findSome? (K.kont S3.fs f.up j) := fun S3 x3 I3 e c1 => by
      rw [SrE.kont_succ I3.ch (x3.get hf0) hx, if_neg (by omega), if_pos ho]
      dsimp only
      rw [ht]
    have hNx : ∀ e, e ∈ es → NextOK K N S2 (q + 1) e (L e) (fun S => Φ S + pend K (q + 1) es L kR S) := fun e he => frame_ok (N := N) hK.ref hΦ hf0 (fun e he c1 hc1 S3 x3 I3 hk3 hcs3 hfu3 => by
      obtain ⟨i1, i2⟩ := hin e he
      obtain ⟨b, S', ev, res⟩ := h2 e he c1 hc1 { f with kid := satK x f.kid } _ S3 Φ hp ho (by dsimp only; rw [hkid, satK_cap]) ht i2 hj hk3 I3 hcs3 (Nat.le_trans hup (x2.trans x3).le) hΦ (hN.mono (x2.trans x3) (hz e he c1 hc1)) hfu3
      exact ⟨b, S', .bodyRep hx ho ev, res.lift .refl (hsem S3 x3 I3 e c1).symm rfl (Nat.le_refl _) fun _ => Nat.le_refl _⟩) he
    have hA : Anti (fun S => Φ S + pend K (q + 1) es L kR S) := fun S S' h => Nat.add_le_add (hΦ _ _ h) (pend_anti _ _ h)
    have hps := pend_sumW (K := K) (u := q + 1) (kN := kN) (L := L) (kR := kR) (S := S2) (es := es)
    have hq := (List.getElem?_eq_some_iff.1 hf0).1
    have hcs2 : S2.cs = noS :: c := p4.trans hcs
    have hall : (RLf x (K.kidsB f.node) j f.kid i c).findSome? (K.kont S.fs f.up j) = (((ends i j).findSome? fun e => if brkH x had i e then none else (LF1 K.w y js i e (emp (F.nd y js .nil).flat c)).findSome? (K.kont S2.fs (q + 1) e)).or ((if i = j ∧ x.mn ≤ (f.kid : Int) then [c] else []).findSome? (K.kont S.fs f.up j))) := by
      rw [RLf_eq, List.findSome?_append, if_pos (hM2.2 hm), fs_flat]
      congr 1
      refine fs_congr fun e he => ?_
      have he2 := mem_ends.1 he
      by_cases hb : brkH x had i e
      · rw [if_pos hb, if_pos ⟨hb.1, hmn.2 hb.2.1, h0k.2 hb.2.2⟩]; rfl
      · rw [if_neg hb, if_neg (fun h => hb ⟨h.1, hmn.1 h.2.1, h0k.1 h.2.2⟩), fs_flat, hkb e he2.1]
        congr 1
        funext c1
        rw [hsem S2 .refl Ip, hI.kont Ip x2 hup, RLf_sat hmx]
    have hem : ends i j = down i (j + 1 - i) := rfl
    rw [hes2] at hps
    obtain ⟨b, S3, ev, res⟩ := rndL_ok (j := j) hK hA hp hbrk (fun e a1 a2 a3 => by rw [hes2, List.mem_filter]; exact ⟨mem_ends.2 ⟨a1, a2⟩, by simpa using a3⟩) h1 hj hNx hc (j + 1 - i) (by omega) S2 .refl Ip hcs2 (by omega) (by rw [← hem]; rw [hes2] at hk ⊢; omega)
    rw [← hem] at res ev
    have res2 := res.lift (S := S) (sem := _) (k := k) (Φ := Φ) x2 rfl p4 (by rw [hes2] at hk ⊢; omega) fun S' => Nat.le_add_right _ _
    have hev : Ev K S2 (.rndL f (q + 1) i (ends i f.to)) b S3 := by rw [ht]; exact ev
    cases b with
    | true =>
      refine ⟨true, S3, .rndYes hx (hM.2 hm) hpu hev, res2.inv, res2.ext, fun _ => ?_, fun h => (by cases h)⟩
      obtain ⟨r', r1, r2, r3, r4⟩ := res2.yes rfl
      exact ⟨r', by rw [hall, r1]; rfl, r2, r3, r4⟩
    | false =>
      obtain ⟨r1, r2, r3⟩ := res2.no rfl
      have hgr := hev.grow
      by_cases he : i = f.to ∧ x.mn ≤ (f.kid : Int)
      · obtain ⟨b, S', ev2, res3⟩ := tail S3 res2.ext res2.inv (r2.trans hcs) (by omega) he
        refine ⟨b, S', .rndEnd hx (hM.2 hm) hpu hev he ev2, ((res2.seq res3).sem ?_).lift .refl rfl rfl (Nat.le_refl _) fun _ => Nat.le_refl _⟩
        rw [hall, r1, if_pos (by rw [← ht]; exact he), fs_one, hI.kont res2.inv res2.ext hup]; rfl
      · exact ⟨false, S3, .rndNo hx (hM.2 hm) hpu hev he, res2.sem (by rw [hall, r1, if_neg (by rw [← ht]; exact he)]; rfl)⟩
  · have hall : (RLf x (K.kidsB f.node) j f.kid i c).findSome? (K.kont S.fs f.up j) = ((if i = j ∧ x.mn ≤ (f.kid : Int) then [c] else []).findSome? (K.kont S.fs f.up j)) := by
      rw [RLf_eq, if_neg (fun h => hm (hM2.1 h)), List.nil_append]
    by_cases he : i = f.to ∧ x.mn ≤ (f.kid : Int)
    · obtain ⟨b, S', ev2, res3⟩ := tail S .refl hI hcs (by omega) he
      refine ⟨b, S', .rnd0End hx (fun h => hm (hM.1 h)) he ev2, res3.lift .refl ?_ rfl (by omega) fun _ => Nat.le_refl _⟩
      rw [hall, if_pos (by rw [← ht]; exact he), fs_one]
    · exact ⟨false, S, .rnd0No hx (fun h => hm (hM.1 h)) he, hI, .refl, fun h => (by cases h), fun _ => ⟨by rw [hall, if_neg (by rw [← ht]; exact he)]; rfl, rfl, by omega⟩⟩
def SrTgt (K : SrE) (N : Nat) : TQ → List Caps → Nat → Prop
  | .node x ks i j c, Z, k => NodeTgt K N x ks i j c Z k
  | .alt g i j c, Z, k => AltTgt K N g i j c Z k
  | .row g i j c, Z, k => RowTgt K N g i j c Z k
  | .rnd x y js had i j c, Z, k => RndTgt K N x y js had i j c Z k
theorem ct_ok (hK : K.ok N) {q : TQ} {Z : List Caps} {k : Nat} (h : Ct K.w.length q Z k) : SrTgt K N q Z k := by
  induction h with
  | leaf ho hz hk => exact sr_leaf hK ho hz hk
  | cat ho _ hk ih => exact sr_cat hK ho ih hk
  | rep ho _ hk ih => exact sr_rep hK ho ih hk
  | grp ho _ hz hk ih => exact sr_grp hK ho ih hz hk
  | altC ho _ hk ih => exact sr_altC ho ih hk
  | altNil => exact sr_altNil
  | altCons _ _ hz1 hz2 hk ih1 ih2 => exact sr_altCons ih1 ih2 hz1 hz2 hk
  | rowNil hz => exact sr_rowNil hz
  | rowCons hes _ _ hz hk ih1 ih2 => exact sr_rowCons hK hes ih1 ih2 hz hk
  | rnd hes _ _ hz hz2 hk ih1 ih2 => exact sr_rnd hK hes ih1 ih2 hz hz2 hk
theorem take_ok (hK : K.ok N) {x : Nd} {ks : F} {e0 i j : Nat} {c : Caps} {Z : List Caps} {k : Nat} (h : Ct K.w.length (.node x ks i j c) Z k) (hp : Part K.re (.nd x ks .nil) 0 e0) (hij : i ≤ j) (hj : j ≤ K.w.length) (hc : CapOk K N c) {S : SS} (hI : Inv K N S) (hcs : S.cs = noS :: c) (hf : k ≤ S.fuel) :
    ∃ b S', Ev K S (.take 0 i j 0) b S' ∧ Inv K N S' ∧ S'.wk ≤ S.wk + k ∧ (b = true → ∃ r, (LF1 K.w x ks i j c).head? = some r ∧ CapOk K N r ∧ S'.cs = noS :: r) ∧ (b = false → LF1 K.w x ks i j c = [] ∧ S'.cs = S.cs) := by
  have hT : NodeTgt K N x ks i j c Z k := ct_ok hK h
  obtain ⟨b, S', ev, res⟩ := hT 0 e0 S 0 (fun _ => 0) hp hij hj hc hI hcs (Nat.zero_le _) (fun _ _ _ => Nat.le_refl _) (fun S1 c1 _ I1 _ hk1 hcs1 _ => ⟨true, S1, .nextZero, I1, .refl, fun _ => ⟨c1, rfl, hk1, hcs1, by omega⟩, fun h => (by cases h)⟩) (by omega)
  have hk0 : K.kont S.fs 0 j = some := by funext c1; exact SrE.kont_zero
  have hh : ∀ l : List Caps, l.findSome? some = l.head? := fun l => by cases l <;> rfl
  rw [hk0, hh] at res
  refine ⟨b, S', ev, res.inv, ?_, fun hb => ?_, fun hb => ?_⟩
  · cases b with
    | true => obtain ⟨_, _, _, _, h⟩ := res.yes rfl; omega
    | false => obtain ⟨_, _, h⟩ := res.no rfl; omega
  · obtain ⟨r, r1, r2, r3, _⟩ := res.yes hb
    exact ⟨r, r1, r2, r3⟩
  · obtain ⟨r1, r2, _⟩ := res.no hb
    exact ⟨List.head?_eq_none_iff.1 r1, r2⟩
end
end Go.HL.Kl.Mc
namespace Go.HL.Kl.Mc
open Go Go.HL Go.HL.Kl
section
variable {P : Program} {κ : Cx} {L : Loc} {H : Hp} {ty t t' : TypeId} {x y : Operand}
theorem sp_fq {e : Nat} [TU P e (.int .i64)] [TG P e true] (w : World) (p q : Sp) : FQ P w 9998 (Esp p).toArray (Esp q).toArray [(e, 0), (e, 1)] (decide (p = q)) := by
  have h : FQ P w 9998 (Esp p).toArray (Esp q).toArray [(e, 0), (e, 1)] _ :=
    .int (j := .i64) (p := p.fr) (q := q.fr) rfl rfl (.int (j := .i64) (p := p.to) (q := q.to) rfl rfl .nil)
  have e : (p.fr == q.fr && (p.to == q.to && true)) = decide (p = q) := by
    cases p; cases q
    simp only [Sp.mk.injEq, Bool.and_true]
    rw [Bool.eq_iff_iff]
    simp
  rw [← e]; exact h
theorem s_eql_sp {e : Nat} [EG P t] [TU P e (.int .i64)] [TG P e true] [Go.HL.TQ P t [(e, 0), (e, 1)]] {p q : Sp} (hx : ev L x = some (.agg (Esp p).toArray)) (hy : ev L y = some (.agg (Esp q).toArray)) : Step P κ (.binOp .eql t x y t') ty L H (.bool (decide (p = q))) :=
  s_eql_st hx hy fun w => sp_fq w p q
theorem s_neq_sp {e : Nat} [EG P t] [TU P e (.int .i64)] [TG P e true] [Go.HL.TQ P t [(e, 0), (e, 1)]] {p q : Sp} (hx : ev L x = some (.agg (Esp p).toArray)) (hy : ev L y = some (.agg (Esp q).toArray)) : Step P κ (.binOp .neq t x y t') ty L H (.bool (!decide (p = q))) :=
  s_neq_st hx hy fun w => sp_fq w p q
end
end Go.HL.Kl.Mc
namespace Go.Proofs.YtloepfcndglmmaaDoor
open Go Go.HL Go.Proofs Go.HL.Kl Go.HL.Kl.Mc Go.HL.Kl.Mc.AskE
instance q134 : TQ Tryd.prog 134 [(3, 0), (3, 1), (3, 2), (3, 3), (45, 4)] := ⟨by kernel_rfl⟩
instance q187 : TQ Tryd.prog 187 [(3, 0), (3, 1), (3, 2)] := ⟨by kernel_rfl⟩
instance q201 : TQ Tryd.prog 201 [(3, 0), (199, 1)] := ⟨by kernel_rfl⟩
instance k45 : QK Tryd.prog 45 true 2 2 := QK.struct (l := [(3, 0), (3, 1)]) (Nat.le_refl _) (.cons (QK.int (t := 3)) (Nat.le_refl _) (.cons (QK.int (t := 3)) (Nat.le_refl _) .nil))
instance k134 : QK Tryd.prog 134 true 3 6 := QK.struct (l := [(3, 0), (3, 1), (3, 2), (3, 3), (45, 4)]) (by decide) (.cons (QK.int (t := 3)) (by decide) (.cons (QK.int (t := 3)) (by decide) (.cons (QK.int (t := 3)) (by decide) (.cons (QK.int (t := 3)) (by decide) (.cons k45 (by decide) .nil)))))
instance k187 : QK Tryd.prog 187 true 2 3 := QK.struct (l := [(3, 0), (3, 1), (3, 2)]) (Nat.le_refl _) (.cons (QK.int (t := 3)) (Nat.le_refl _) (.cons (QK.int (t := 3)) (Nat.le_refl _) (.cons (QK.int (t := 3)) (Nat.le_refl _) .nil)))
instance k199 : QK Tryd.prog 199 true 3 8 := QK.arr (m := 4) (e := 45) (se := 2) k45
instance k201 : QK Tryd.prog 201 true 4 9 := QK.struct (l := [(3, 0), (199, 1)]) (by decide) (.cons (QK.int (t := 3)) (by decide) (.cons k199 (by decide) .nil))
/-! keys as numbers -/
def FrI (f : Frm) : List Int := [f.up, f.node, f.kid, f.left, f.fr, f.to]
def TkI (t : Tk) : List Int := (t.ahead : Int) :: t.h.flatMap fun s => [s.fr, s.to]
def PtI (p : Pt) : List Int := [p.u, p.at_, p.tk]
def Efr (f : Frm) : List Value := [.int .i64 (f.up : Nat), .int .i64 (f.node : Nat), .int .i64 (f.kid : Nat), .int .i64 (f.left : Nat), .int .i64 (f.fr : Nat), .int .i64 (f.to : Nat)]
instance : Enc Efr 6 := ⟨fun _ => rfl, fun x v hv => by
  simp only [Efr, List.mem_cons, List.not_mem_nil, or_false] at hv
  rcases hv with rfl | rfl | rfl | rfl | rfl | rfl <;> rfl⟩
def EkF (f : Frm) : Value := .agg (intsV .i64 (FrI f)).toArray
def EkP (p : Pt) : Value := .agg (intsV .i64 (PtI p)).toArray
structure Tk4 where
  t : Tk
  h4 : t.h.length = 4
def EkT (t : Tk4) : Value := .agg (intsV .i64 (TkI t.t)).toArray
instance : DecidableEq Tk4 := fun a b => decidable_of_iff (a.t = b.t) ⟨fun h => by cases a; cases b; cases h; rfl, fun h => by rw [h]⟩
theorem struct_of {t : Nat} {l : List (Nat × Nat)} [TQ Tryd.prog t l] : ∃ fs, Tryd.prog.underlying t = some (.struct fs) := by
  obtain ⟨fs, h, _⟩ := ky_struct (P := Tryd.prog) (t := t) (l := l)
  exact ⟨fs, h⟩
instance keF : KE Tryd.prog 134 EkF := KE.of (Ei := FrI) (fun _ => rfl) (fun a b h => by
  cases a; cases b
  simp only [FrI, List.cons.injEq, Int.ofNat_inj, and_true] at h
  simp only [Frm.mk.injEq]; exact h) (by decide) struct_of
instance keP : KE Tryd.prog 187 EkP := KE.of (Ei := PtI) (fun _ => rfl) (fun a b h => by
  cases a; cases b
  simp only [PtI, List.cons.injEq, Int.ofNat_inj, and_true] at h
  simp only [Pt.mk.injEq]; exact h) (by decide) struct_of
theorem TkI_len (t : Tk4) : (TkI t.t).length = 9 := by
  obtain ⟨⟨a, h⟩, h4⟩ := t
  match h, h4 with
  | [s1, s2, s3, s4], _ => rfl
instance keT : KE Tryd.prog 201 EkT := KE.of (Ei := fun t : Tk4 => TkI t.t) TkI_len (fun a b h => by
  obtain ⟨⟨a1, ha⟩, h4⟩ := a
  obtain ⟨⟨b1, hb⟩, h5⟩ := b
  match ha, h4, hb, h5 with
  | [⟨a2, a3⟩, ⟨a4, a5⟩, ⟨a6, a7⟩, ⟨a8, a9⟩], _, [⟨b2, b3⟩, ⟨b4, b5⟩, ⟨b6, b7⟩, ⟨b8, b9⟩], _ =>
    simp only [TkI, List.flatMap_cons, List.flatMap_nil, List.cons_append, List.nil_append, List.cons.injEq, Int.ofNat_inj, and_true] at h
    obtain ⟨rfl, rfl, rfl, rfl, rfl, rfl, rfl, rfl, rfl⟩ := h
    rfl) (by decide) struct_of
end Go.Proofs.YtloepfcndglmmaaDoor
namespace Go.HL.Kl.Mc
open Go Go.HL Go.HL.Kl AskE
theorem fnd_snoc {α : Type} [DecidableEq α] {a b : α} : ∀ {l : List α}, fnd b l = none → fnd a (l ++ [b]) = if a = b then some l.length else fnd a l
  | [], _ => by
    by_cases h : a = b
    · subst h; simp [fnd]
    · rw [if_neg h]; simp [fnd, Ne.symm h]
  | c :: l, hb => by
    unfold fnd at hb
    split at hb
    · cases hb
    · rename_i hcb
      rw [Option.map_eq_none_iff] at hb
      have ih := fnd_snoc (a := a) hb
      rw [List.cons_append]
      unfold fnd
      rw [ih]
      by_cases h : a = b
      · subst h
        rw [if_pos rfl, if_pos rfl, if_neg hcb]; rfl
      · rw [if_neg h, if_neg h]
theorem push_some {S : SS} {f : Frm} {k : Nat} (h : fnd f S.fs = some k) : S.push f = (k + 1, S) := by unfold SS.push; rw [h]
theorem push_none {S : SS} {f : Frm} (h : fnd f S.fs = none) : S.push f = (S.fs.length + 1, { S with fs := S.fs ++ [f] }) := by unfold SS.push; rw [h]
end Go.HL.Kl.Mc
namespace Go.Proofs.YtloepfcndglmmaaDoor
open Go Go.HL Go.Proofs Go.HL.Kl Go.HL.Kl.Mc Go.HL.Kl.Mc.AskE
structure BkE where
  (b : Nat) (ra : Option Addr) (rc : Nat) (re : List Nd) (ta : Option Addr) (tc : Nat) (w : List UInt8) (ba : Option Addr) (bc : Nat) (bl : List Nat) (xa : Option Addr) (xc : Nat) (R : List Nat) (bn bt bf : Nat) (sa : Option Addr) (sc N : Nat)
structure BkS where
  (S : SS) (fa : Option Addr) (fc : Nat) (Sf Ss : Hp) (en : List (Mx Frm)) (cn : Nat) (et : List (Mx Tk4)) (ct : Nat) (ef : List (Mx Pt)) (cf : Nat) (d : Bool)
def zeroF : Frm := ⟨0, 0, 0, 0, 0, 0⟩
namespace BkE
def sr (K : BkE) : SrE := ⟨K.re, K.w, K.R⟩
abbrev obj (K : BkE) (s : BkS) : Nat × Obj := (K.b, .cells [.slice K.ra K.re.length K.rc, .slice K.ta K.w.length K.tc, .slice K.ba K.bl.length K.bc, .slice K.xa K.R.length K.xc, .slice s.fa (zeroF :: s.S.fs).length s.fc, .map (some K.bn), .map (some K.bt), .map (some K.bf), .slice K.sa (K.N + 1) K.sc, .int .i64 (s.S.fuel : Nat), .bool s.d].toArray 103 (0, 0))
abbrev tl (K : BkE) (s : BkS) : Hp := (K.bn, mxO EkF s.en s.cn) :: (K.bt, mxO EkT s.et s.ct) :: (K.bf, mxO EkP s.ef s.cf) :: (s.Sf ++ s.Ss)
def H (K : BkE) (s : BkS) : Hp := K.obj s :: K.tl s
structure Rep (K : BkE) (s : BkS) : Prop where
  fr : OwnS Efr 6 134 (.slice s.fa (zeroF :: s.S.fs).length s.fc) (zeroF :: s.S.fs) s.Sf
  sp : OwnS Esp 2 45 (.slice K.sa (K.N + 1) K.sc) s.S.cs s.Ss
  cl : s.S.cs.length = K.N + 1
  en : ∀ f, getM s.en f = (fnd f s.S.fs).map fun k => .int .i64 ((k + 1 : Nat) : Int)
  et : ∀ t : Tk4, getM s.et t = (fnd t.t s.S.ts).map fun k => .int .i64 ((k + 1 : Nat) : Int)
  el : s.et.length = s.S.ts.length
  ef : ∀ p, getM s.ef p = if p ∈ s.S.F then some (.bool true) else none
structure Env (K : BkE) (W : World) (M : List Nat) : Prop where
  d1 : Rd En W (.slice K.ra K.re.length K.rc) K.re
  a1 : Apart M (.slice K.ra K.re.length K.rc)
  d2 : Rd Eb W (.slice K.ta K.w.length K.tc) K.w
  a2 : Apart M (.slice K.ta K.w.length K.tc)
  d3 : Rd Eix W (.slice K.ba K.bl.length K.bc) K.bl
  a3 : Apart M (.slice K.ba K.bl.length K.bc)
  d4 : Rd Eix W (.slice K.xa K.R.length K.xc) K.R
  a4 : Apart M (.slice K.xa K.R.length K.xc)
  g : RdP W 0 0 (Esp noS)
  ga : 0 ∉ M
theorem Env.out {K : BkE} {w0 w : World} {M : List Nat} {H S : Hp} (h : K.Env w0 M) (st : St w0 w M H) (hin : HIn S H) : K.Env w (keys S) :=
  ⟨(RdK.old (κ := ⟨0, [], w0, M⟩) (H := H) h.d1 h.a1).out w st, st.apart_M hin h.d1 h.a1 (by decide), (RdK.old (κ := ⟨0, [], w0, M⟩) (H := H) h.d2 h.a2).out w st, st.apart_M hin h.d2 h.a2 (by decide),
    (RdK.old (κ := ⟨0, [], w0, M⟩) (H := H) h.d3 h.a3).out w st, st.apart_M hin h.d3 h.a3 (by decide), (RdK.old (κ := ⟨0, [], w0, M⟩) (H := H) h.d4 h.a4).out w st, st.apart_M hin h.d4 h.a4 (by decide),
    (RdPK.old (κ := ⟨0, [], w0, M⟩) (H := H) h.g h.ga).out w st, st.notin hin h.g (by simp [Esp]) h.ga⟩
end BkE
set_option maxHeartbeats 1000000 in
theorem pushK_fn (K : BkE) (s : BkS) (hR : K.Rep s) (f : Frm) (hfl : s.S.fs.length ≤ 1000000000000) : HL.Fn Tryd.prog 86 [pt K.b, .agg (Efr f).toArray] (fun _ => True) ((K.b, .cells [.slice K.ra K.re.length K.rc, .slice K.ta K.w.length K.tc, .slice K.ba K.bl.length K.bc, .slice K.xa K.R.length K.xc, .slice s.fa (zeroF :: s.S.fs).length s.fc, .map (some K.bn), .map (some K.bt), .map (some K.bf), .slice K.sa (K.N + 1) K.sc, .int .i64 (s.S.fuel : Nat), .bool s.d].toArray 103 (0, 0)) :: K.tl s) (fun v S' => ∃ s', v = .int .i64 ((s.S.push f).1 : Nat) ∧ S' = ((K.b, .cells [.slice K.ra K.re.length K.rc, .slice K.ta K.w.length K.tc, .slice K.ba K.bl.length K.bc, .slice K.xa K.R.length K.xc, .slice s'.fa (zeroF :: s'.S.fs).length s'.fc, .map (some K.bn), .map (some K.bt), .map (some K.bf), .slice K.sa (K.N + 1) K.sc, .int .i64 (s'.S.fuel : Nat), .bool s'.d].toArray 103 (0, 0)) :: K.tl s') ∧ K.Rep s' ∧ s'.S = (s.S.push f).2 ∧ s'.Ss = s.Ss ∧ s'.d = s.d) := by
  refine fn_of Tryd.func86 rfl rfl rfl fun w0 hw => ?_
  have hfs := hR.fr.sl
  refine cR fun _ hK1 => ?_; refine o_box rfl rfl rfl fun b3 => ?_; refine oA (oZ hK1 (c_seq fun _ hK2 => ?_)); refine c_quiet (by kernel_rfl) ?_; refine .op rfl (s_move rfl) ?_; refine .op rfl (s_nil rfl) ?_; refine .op rfl (s_field rfl rfl (by decide)) ?_; refine .op rfl (s_ld rfl (.own meA rfl)) ?_; refine .op rfl (s_ldB rfl (RdPK.cels (.own meA)) lnA) ?_; refine .op rfl (s_look2k (Ek := EkF) (k := f) rfl rfl meA) ?_; refine .op rfl (s_move rfl) ?_; refine .op rfl (s_extract rfl rfl) ?_
  by_cases hs : (fnd f s.S.fs).isSome = true
  ·obtain ⟨k, hk⟩ := Option.isSome_iff_exists.1 hs
   have hpu := push_some hk
   refine .op rfl (step_cast (v' := .bool true) (s_extract rfl rfl) (by show Value.bool (getM s.en f).isSome = _; rw [hR.en f, hk]; rfl)) ?_; refine .op rfl (s_assign rfl) ?_; refine .op rfl (s_assign rfl) ?_; refine .nil ?_; refine xZ hK2 (c_seq fun _ hK3 => ?_); refine cR fun _ hK4 => ?_; refine oM ?_; refine oS (s_not rfl) ?_; refine oZ hK4 ?_; refine cFZ hK3 (cR fun _ hK5 => ?_); refine oM (oA (oZ hK5 (c_ret ?_))); refine ?_; refine x_sub (Sub.refl _) (H' := ((K.b, .cells [.slice K.ra K.re.length K.rc, .slice K.ta K.w.length K.tc, .slice K.ba K.bl.length K.bc, .slice K.xa K.R.length K.xc, .slice s.fa (zeroF :: s.S.fs).length s.fc, .map (some K.bn), .map (some K.bt), .map (some K.bf), .slice K.sa (K.N + 1) K.sc, .int .i64 (s.S.fuel : Nat), .bool s.d].toArray 103 (0, 0)) :: K.tl s)) hzB ?_
   exact xR rfl rfl (⟨s, by rw [hpu]; show (getM s.en f).getD _ = _; rw [hR.en f, hk]; rfl, rfl, hR, by rw [hpu], rfl, rfl⟩)
  ·have hk : fnd f s.S.fs = none := by simpa using hs
   have hpu := push_none hk
   refine .op rfl (step_cast (v' := .bool false) (s_extract rfl rfl) (by show Value.bool (getM s.en f).isSome = _; rw [hR.en f, hk]; rfl)) ?_; refine .op rfl (s_assign rfl) ?_; refine .op rfl (s_assign rfl) ?_; refine .nil ?_; refine xZ hK2 (c_seq fun _ hK6 => ?_); refine cR fun _ hK7 => ?_; refine oM ?_; refine oS (s_not rfl) ?_; refine oZ hK7 ?_; refine cT (cR fun _ hK8 => ?_); refine oM ?_; refine oS sN ?_; refine oS sF ?_; refine oS sL ?_; refine oS sC (oA (oZ hK8 (c_seq fun _ hK9 => ?_))); refine c_tail 6 (by kernel_rfl) ?_; refine .op rfl (s_move rfl) ?_; refine .op rfl (s_nil rfl) ?_; refine .op rfl (s_field rfl rfl (by decide)) ?_; refine .op rfl (s_ld rfl (.own meA rfl)) ?_; refine .op rfl (s_ldB rfl (RdPK.cels (.own meA)) lnA) ?_; refine .op rfl (s_move rfl) ?_; refine .nil ?_; refine o_mset2 (Ek := EkF) (k := f) rfl rfl rfl pkA fun en' cn' hen' hel' => ?_; refine oZ hK9 ?_; refine c_drawE ([(K.b, .cells [.slice K.ra K.re.length K.rc, .slice K.ta K.w.length K.tc, .slice K.ba K.bl.length K.bc, .slice K.xa K.R.length K.xc, .slice s.fa (zeroF :: s.S.fs).length s.fc, .map (some K.bn), .map (some K.bt), .map (some K.bf), .slice K.sa (K.N + 1) K.sc, .int .i64 (s.S.fuel : Nat), .bool s.d].toArray 103 (0, 0)), (b3, .cells (Efr f).toArray 134 (0, 0))]) (fun i => Nat.beq i 10) ?_; refine eP 0 rfl sM ?_; refine eP 1 rfl sM ?_; refine eP 2 rfl sN ?_; refine eP 3 rfl sF ?_
   refine eK 4 rfl sL ?_; refine eK 5 rfl (s_ldB rfl (RdPK.cels (.own meA)) lnA) ?_; refine eO 6 rfl ?_; refine o_bs (E := Efr) (xs := [f]) (vs := [_]) rfl rfl rfl rfl rfl (by decide) (by decide) fun b35 S35 hS35 => ?_; refine oX (eO 7 rfl ?_); refine o_app hR.fr (hS35.rdk hiA) rfl rfl rfl rfl (by simp; omega) (by simp; omega) rfl pkA fun a36 c36 S36 hS36 => ?_; refine oX (eO 8 rfl ?_); refine oS sN (oX (eO 9 rfl ?_)); refine oS sF (oX (eO 10 rfl ?_)); refine o_store rfl rfl rfl upA ltA rfl ?_; refine o_nil ?_; refine x_oneL rfl ?_; refine eZ hK6 (cR fun _ hK10 => ?_); refine oM (oA (oZ hK10 (c_ret ?_))); refine ?_; refine x_sub (Sub.refl _) (H' := ((K.b, .cells [.slice K.ra K.re.length K.rc, .slice K.ta K.w.length K.tc, .slice K.ba K.bl.length K.bc, .slice K.xa K.R.length K.xc, .slice ({ s with S := { s.S with fs := s.S.fs ++ [f] }, fa := a36, fc := c36, Sf := S36, en := en', cn := cn' } : BkS).fa (zeroF :: ({ s with S := { s.S with fs := s.S.fs ++ [f] }, fa := a36, fc := c36, Sf := S36, en := en', cn := cn' } : BkS).S.fs).length ({ s with S := { s.S with fs := s.S.fs ++ [f] }, fa := a36, fc := c36, Sf := S36, en := en', cn := cn' } : BkS).fc, .map (some K.bn), .map (some K.bt), .map (some K.bf), .slice K.sa (K.N + 1) K.sc, .int .i64 (({ s with S := { s.S with fs := s.S.fs ++ [f] }, fa := a36, fc := c36, Sf := S36, en := en', cn := cn' } : BkS).S.fuel : Nat), .bool ({ s with S := { s.S with fs := s.S.fs ++ [f] }, fa := a36, fc := c36, Sf := S36, en := en', cn := cn' } : BkS).d].toArray 103 (0, 0)) :: K.tl ({ s with S := { s.S with fs := s.S.fs ++ [f] }, fa := a36, fc := c36, Sf := S36, en := en', cn := cn' } : BkS))) hzB ?_
   exact xR rfl rfl (⟨{ s with S := { s.S with fs := s.S.fs ++ [f] }, fa := a36, fc := c36, Sf := S36, en := en', cn := cn' }, by rw [hpu]; rfl, rfl, ⟨hS36, hR.sp, hR.cl, fun g => by show getM en' g = (fnd g (s.S.fs ++ [f])).map _; rw [hen' g, fnd_snoc hk, hR.en g]; split <;> rfl, hR.et, hR.el, hR.ef⟩, by rw [hpu], rfl, rfl⟩)
end Go.Proofs.YtloepfcndglmmaaDoor
namespace Go.Proofs.YtloepfcndglmmaaDoor
open Go Go.HL Go.Proofs Go.HL.Kl Go.HL.Kl.Mc Go.HL.Kl.Mc.AskE
def chk (l : List Sp) (q k : Nat) : List Sp := (List.range 4).map fun i => if i < k then l.getD (4 * q + i) zSp else zSp
theorem chk_len {l : List Sp} {q k : Nat} : (chk l q k).length = 4 := by simp [chk]
theorem chk_4 {l : List Sp} {q : Nat} : chk l q 4 = chunk l q := rfl
theorem chk_out {l : List Sp} {q k : Nat} (h : ¬ 4 * q + k < l.length) : chk l q (k + 1) = chk l q k := by
  refine List.map_congr_left fun i hi => ?_
  have hi := List.mem_range.1 hi
  by_cases h1 : i < k
  · rw [if_pos h1, if_pos (by omega)]
  · rw [if_neg h1]
    split
    · rw [List.getD_eq_getElem?_getD, List.getElem?_eq_none (by omega)]; rfl
    · rfl
theorem tk_len {n : Nat} {l : List Sp} {q k : Nat} : (intsV .i64 (TkI ⟨n, chk l q k⟩)).length = 9 := rfl
theorem tk_splice {n q k : Nat} {l : List Sp} {x : Sp} (hk : k < 4) (hx : l[4 * q + k]? = some x) : splice (intsV .i64 (TkI ⟨n, chk l q k⟩)) (0 + 1 + ((k : Nat) : Int).toNat * 2) (Esp x) = intsV .i64 (TkI ⟨n, chk l q (k + 1)⟩) := by
  have e : x = l.getD (4 * q + k) zSp := by rw [List.getD_eq_getElem?_getD, hx]; rfl
  subst e
  match k, hk with
  | 0, _ => rfl
  | 1, _ => rfl
  | 2, _ => rfl
  | 3, _ => rfl
theorem chunks_step {l : List Sp} {q : Nat} (h : 4 * q < l.length) : (chunks l).drop q = chunk l q :: (chunks l).drop (q + 1) := by
  have hq : q < (chunks l).length := by rw [chunks_len]; omega
  rw [List.drop_eq_getElem_cons hq]
  congr 1
  simp [chunks]
theorem chunks_end {l : List Sp} {q : Nat} (h : ¬ 4 * q < l.length) : (chunks l).drop q = [] := List.drop_eq_nil_of_le (by rw [chunks_len]; omega)
theorem stG_some {ts : List Tk} {n k : Nat} {h : List Sp} {r : List (List Sp)} (e : fnd ⟨n, h⟩ ts = some k) : stG ts n (h :: r) = stG ts (k + 1) r := by
  rw [stG, e]
theorem stG_no {ts : List Tk} {n : Nat} {h : List Sp} {r : List (List Sp)} (e : fnd ⟨n, h⟩ ts = none) : stG ts n (h :: r) = stG (ts ++ [⟨n, h⟩]) (ts.length + 1) r := by
  rw [stG, e]
theorem tk4_iff {a b : Tk4} : a = b ↔ a.t = b.t := ⟨fun h => by rw [h], fun h => by cases a; cases b; cases h; rfl⟩
set_option maxHeartbeats 2000000 in
theorem stateK_fn (K : BkE) (s : BkS) (hR : K.Rep s) (hr : ∀ r ∈ K.R, r ≤ K.N) (hRl : K.R.length ≤ 1000000) (htl : s.S.ts.length ≤ 100000000000000000) : HL.Fn Tryd.prog 103 [pt K.b] (fun W => K.Env W (keys ((K.b, .cells [.slice K.ra K.re.length K.rc, .slice K.ta K.w.length K.tc, .slice K.ba K.bl.length K.bc, .slice K.xa K.R.length K.xc, .slice s.fa (zeroF :: s.S.fs).length s.fc, .map (some K.bn), .map (some K.bt), .map (some K.bf), .slice K.sa (K.N + 1) K.sc, .int .i64 (s.S.fuel : Nat), .bool s.d].toArray 103 (0, 0)) :: K.tl s))) ((K.b, .cells [.slice K.ra K.re.length K.rc, .slice K.ta K.w.length K.tc, .slice K.ba K.bl.length K.bc, .slice K.xa K.R.length K.xc, .slice s.fa (zeroF :: s.S.fs).length s.fc, .map (some K.bn), .map (some K.bt), .map (some K.bf), .slice K.sa (K.N + 1) K.sc, .int .i64 (s.S.fuel : Nat), .bool s.d].toArray 103 (0, 0)) :: K.tl s) (fun v S' => ∃ et' ct', v = .int .i64 ((K.sr.code s.S).1 : Nat) ∧ S' = ((K.b, .cells [.slice K.ra K.re.length K.rc, .slice K.ta K.w.length K.tc, .slice K.ba K.bl.length K.bc, .slice K.xa K.R.length K.xc, .slice ({ s with S := (K.sr.code s.S).2, et := et', ct := ct' } : BkS).fa (zeroF :: ({ s with S := (K.sr.code s.S).2, et := et', ct := ct' } : BkS).S.fs).length ({ s with S := (K.sr.code s.S).2, et := et', ct := ct' } : BkS).fc, .map (some K.bn), .map (some K.bt), .map (some K.bf), .slice K.sa (K.N + 1) K.sc, .int .i64 (({ s with S := (K.sr.code s.S).2, et := et', ct := ct' } : BkS).S.fuel : Nat), .bool ({ s with S := (K.sr.code s.S).2, et := et', ct := ct' } : BkS).d].toArray 103 (0, 0)) :: K.tl ({ s with S := (K.sr.code s.S).2, et := et', ct := ct' } : BkS)) ∧ K.Rep ({ s with S := (K.sr.code s.S).2, et := et', ct := ct' } : BkS)) := by
  refine fn_of Tryd.func103 rfl rfl rfl fun w0 hw => ?_
  have hs4 := hw.d4.sl
  have hsp := hR.sp.sl
  have hcl := hR.cl
  rw [hcl] at hsp
  have hpl : (K.sr.proj s.S.cs).length = K.R.length := SrE.proj_len _ _
  refine cR fun _ hK1 => ?_; refine oA (oZ hK1 (cR fun _ hK2 => ?_)); refine oA (oZ hK2 (c_seq fun _ hK3 => ?_)); refine cR fun _ hK4 => ?_; refine oA (oZ hK4 (c_block ?_)); refine c_loop5 (fun (q : Nat) (n : Nat) (ts : List Tk) (et : List (Mx Tk4)) (ct : Nat) => 4 * q ≤ K.R.length + 3 ∧ stG ts n ((chunks (K.sr.proj s.S.cs)).drop q) = stG s.S.ts 0 (chunks (K.sr.proj s.S.cs)) ∧ (∀ t : Tk4, getM et t = (fnd t.t ts).map fun k => .int .i64 ((k + 1 : Nat) : Int)) ∧ et.length = ts.length ∧ ts.length ≤ s.S.ts.length + q) (fun (q : Nat) (n : Nat) (ts : List Tk) (et : List (Mx Tk4)) (ct : Nat) => [(4, .int .i64 ((4 * q : Nat) : Int)), (3, .int .i64 n)]) [(0, _), (2, _)] (fun (q : Nat) (n : Nat) (ts : List Tk) (et : List (Mx Tk4)) (ct : Nat) => (K.b, .cells [.slice K.ra K.re.length K.rc, .slice K.ta K.w.length K.tc, .slice K.ba K.bl.length K.bc, .slice K.xa K.R.length K.xc, .slice s.fa (zeroF :: s.S.fs).length s.fc, .map (some K.bn), .map (some K.bt), .map (some K.bf), .slice K.sa (K.N + 1) K.sc, .int .i64 (s.S.fuel : Nat), .bool s.d].toArray 103 (0, 0)) :: (K.bn, mxO EkF s.en s.cn) :: (K.bt, mxO EkT et ct) :: (K.bf, mxO EkP s.ef s.cf) :: (s.Sf ++ s.Ss)) (fun (q : Nat) (n : Nat) (ts : List Tk) (et : List (Mx Tk4)) (ct : Nat) => K.R.length + 4 - 4 * q) 0 0 s.S.ts s.et s.ct ⟨by omega, rfl, hR.et, hR.el, Nat.le_refl _⟩ sbA sbA hzB ?_
  rintro q n ts et ct ⟨hq4, hst, het, hel, hts⟩
  refine c_seq fun _ hK5 => ?_; refine cR fun _ hK6 => ?_; refine oM (oM ?_); refine oS sN ?_; refine oS sF ?_; refine oS sL ?_; refine oS sC ?_
  by_cases hq : ((4 * q : Nat) : Int) < K.R.length
  ·refine oS lsT (oZ hK6 ?_); refine cTZ hK5 (c_seq fun _ hK7 => ?_); refine c_block (cR fun _ hK8 => ?_); refine oM ?_; refine oS (s_build (cs := [_, _, _, _, _, _, _, _, _]) (vs := [_]) rfl rfl (.cons rfl rfl rfl rfl rfl (.nil))) ?_; refine o_alloc rfl rfl fun b5 => ?_; refine o_stW rfl rfl upA lnA lnA onA ?_; refine oZ hK8 (c_seq fun _ hK9 => ?_); refine cR fun _ hK10 => ?_; refine oM (oZ hK10 (c_block ?_)); refine c_loopB (fun (k : Nat) => k ≤ 4) (fun (k : Nat) => [(20, .int .i64 k)]) [(0, _), (2, _), (3, _), (4, _), (5, _), (9, _), (10, _), (11, _), (12, _), (13, _), (14, _), (15, _), (18, _), (19, _)] (fun (k : Nat) => (b5, .cells (intsV .i64 (TkI ⟨n, chk (K.sr.proj s.S.cs) q k⟩)).toArray 201 (0, 0)) :: (K.b, .cells [.slice K.ra K.re.length K.rc, .slice K.ta K.w.length K.tc, .slice K.ba K.bl.length K.bc, .slice K.xa K.R.length K.xc, .slice s.fa (zeroF :: s.S.fs).length s.fc, .map (some K.bn), .map (some K.bt), .map (some K.bf), .slice K.sa (K.N + 1) K.sc, .int .i64 (s.S.fuel : Nat), .bool s.d].toArray 103 (0, 0)) :: (K.bn, mxO EkF s.en s.cn) :: (K.bt, mxO EkT et ct) :: (K.bf, mxO EkP s.ef s.cf) :: (s.Sf ++ s.Ss)) (fun (k : Nat) => 4 - k) 0 (Nat.zero_le _) sbA sbA hzB ?_
   rintro k hk4
   refine cR fun _ hK11 => ?_
   by_cases hk : (k : Int) < 4
   ·refine oS lsT (oZ hK11 (c_seq fun _ hK12 => ?_)); refine cTZ hK12 (c_seq fun _ hK13 => ?_); refine c_block (cR fun _ hK14 => ?_); refine oM (oA (oZ hK14 (cR fun _ hK15 => ?_))); refine oM (oM ?_); refine oS sD (oM ?_); refine oS sN ?_; refine oS sF ?_; refine oS sL ?_; refine oS sC ?_
    by_cases hkr : ((4 * q : Nat) : Int) + (k : Int) < K.R.length
    ·obtain ⟨r, hrk⟩ : ∃ r, K.R[4 * q + k]? = some r := gE
     have hrN := hr r (List.mem_of_getElem? hrk)
     obtain ⟨x, hcr⟩ : ∃ x, s.S.cs[r]? = some x := gE
     have hPx : (K.sr.proj s.S.cs)[4 * q + k]? = some x := by show (K.R.map _)[4 * q + k]? = _; rw [List.getElem?_map, hrk]; show some (s.S.cs.getD r noS) = _; rw [List.getD_eq_getElem?_getD, hcr]; rfl
     refine oS lsT (oZ hK15 ?_); refine cT ?_; refine c_drawE ((b5, .cells (intsV .i64 (TkI ⟨n, chk (K.sr.proj s.S.cs) q k⟩)).toArray 201 (0, 0)) :: (K.b, .cells [.slice K.ra K.re.length K.rc, .slice K.ta K.w.length K.tc, .slice K.ba K.bl.length K.bc, .slice K.xa K.R.length K.xc, .slice s.fa (zeroF :: s.S.fs).length s.fc, .map (some K.bn), .map (some K.bt), .map (some K.bf), .slice K.sa (K.N + 1) K.sc, .int .i64 (s.S.fuel : Nat), .bool s.d].toArray 103 (0, 0)) :: (K.bn, mxO EkF s.en s.cn) :: (K.bt, mxO EkT et ct) :: (K.bf, mxO EkP s.ef s.cf) :: (s.Sf ++ s.Ss)) (fun i => Nat.beq i 18) ?_; refine eK 0 rfl sM ?_; refine eK 1 rfl sM ?_; refine eK 2 rfl sN ?_; refine eK 3 rfl sF ?_; refine eK 4 rfl sL ?_; refine eK 5 rfl sM ?_; refine eK 6 rfl sN ?_; refine eK 7 rfl sF ?_; refine eK 8 rfl sL ?_; refine eK 9 rfl sM ?_; refine eK 10 rfl sM ?_; refine eK 11 rfl sD ?_; refine eK 12 rfl (s_idx rfl rfl hs4 (by omega)) ?_; refine eK 13 rfl (s_ld rfl ((RdK.old hw.d4 hw.a4).ld (4 * q + k) 0 hrk rfl (by decide) (by omega))) ?_; refine eK 14 rfl (s_idx rfl rfl hsp (by omega)) ?_; refine eK 15 rfl (s_ldB rfl ((hR.sp.rdk hiA).cels hcr) lnA) ?_; refine eO 16 rfl ?_; refine oS sF (oX (eO 17 rfl ?_)); refine oS (s_indexA rfl rfl (by omega)) ?_; refine oX (eO 18 rfl ?_)
     refine o_storeA (l := intsV .i64 (TkI ⟨n, chk (K.sr.proj s.S.cs) q k⟩)) (cs := Esp x) rfl rfl rfl (Enc.one _) upA (by show _ ≤ 9; show 0 + 1 + (k : Int).toNat * 2 + 2 ≤ 9; omega) (fun _ _ => frz0) ?_
     rw [tk_splice (by omega) hPx]
     refine o_nil ?_; refine x_oneL rfl ?_; refine e_done (by kernel_rfl) ?_; refine x_block (xZ hK13 (c_region ?_)); refine oS sD (oM (o_nil ?_)); exact xI (k + 1) (by omega)
    ·refine oS lsF (oZ hK15 ?_); refine cF (c_skip (x_block (xZ hK13 (c_region ?_)))); refine oS sD (oM (o_nil ?_))
     rw [← chk_out (l := (K.sr.proj s.S.cs)) (q := q) (k := k) (by omega)]
     exact xI (k + 1) (by omega)
   ·obtain rfl : k = 4 := by omega
    refine oS lsF (oZ hK11 (c_seq fun _ hK16 => ?_)); refine cF ?_; refine c_exit ?_; refine x_then_exit (x_then_exit (x_block_exit (xZ hK9 (c_seq fun _ hK17 => ?_)))); refine c_quiet (by kernel_rfl) ?_; refine .op rfl (s_move rfl) ?_; refine .op rfl (s_nil rfl) ?_; refine .op rfl (s_field rfl rfl (by decide)) ?_; refine .op rfl (s_ld rfl (.own meA rfl)) ?_; refine .op rfl (s_ldB rfl (RdPK.cels (.own meA)) tk_len) ?_
    by_cases hs : ∃ k0, fnd (⟨n, chk (K.sr.proj s.S.cs) q 4⟩ : Tk) ts = some k0
    ·obtain ⟨k0, hk0⟩ := hs
     refine .op rfl (step_cast (v' := .tuple #[.int .i64 ((k0 + 1 : Nat) : Int), .bool true]) (s_look2k (Ek := EkT) (k := (⟨⟨n, chk (K.sr.proj s.S.cs) q 4⟩, chk_len⟩ : Tk4)) rfl rfl meA) (by rw [het]; show Value.tuple #[((fnd (⟨n, chk (K.sr.proj s.S.cs) q 4⟩ : Tk) ts).map _).getD _, .bool ((fnd (⟨n, chk (K.sr.proj s.S.cs) q 4⟩ : Tk) ts).map _).isSome] = _; rw [hk0]; rfl)) ?_; refine .op rfl (s_move rfl) ?_; refine .op rfl (s_extract rfl rfl) ?_; refine .op rfl (s_extract rfl rfl) ?_; refine .op rfl (s_assign rfl) ?_; refine .op rfl (s_assign rfl) ?_; refine .nil ?_; refine xZ hK17 (c_seq fun _ hK18 => ?_); refine cR fun _ hK19 => ?_; refine oM ?_; refine oS (s_not rfl) ?_; refine oZ hK19 ?_; refine cFZ hK18 (c_region (oM (oA (o_nil (x_block (xZ hK7 (c_region (oM ?_)))))))); refine oS (step_cast (v' := .int .i64 ((4 * (q + 1) : Nat) : Int)) (s_add rfl rfl (by omega)) (congrArg _ (by omega))) ?_; refine oA (o_nil ?_); exact xI (q + 1, k0 + 1, ts, et, ct) ⟨by dsimp only; omega, by dsimp only; rw [← hst, chunks_step (q := q) (by omega), ← chk_4, stG_some hk0], het, hel, by dsimp only; omega⟩
    ·have hk0 : fnd (⟨n, chk (K.sr.proj s.S.cs) q 4⟩ : Tk) ts = none := by cases h : fnd (⟨n, chk (K.sr.proj s.S.cs) q 4⟩ : Tk) ts with | none => rfl | some k0 => exact absurd ⟨k0, h⟩ hs
     have hgn : getM et (⟨⟨n, chk (K.sr.proj s.S.cs) q 4⟩, chk_len⟩ : Tk4) = none := by rw [het]; show (fnd (⟨n, chk (K.sr.proj s.S.cs) q 4⟩ : Tk) ts).map _ = _; rw [hk0]; rfl
     refine .op rfl (step_cast (v' := .tuple #[.int .i64 0, .bool false]) (s_look2k (Ek := EkT) (k := (⟨⟨n, chk (K.sr.proj s.S.cs) q 4⟩, chk_len⟩ : Tk4)) rfl rfl meA) (by rw [hgn]; rfl)) ?_; refine .op rfl (s_move rfl) ?_; refine .op rfl (s_extract rfl rfl) ?_; refine .op rfl (s_extract rfl rfl) ?_; refine .op rfl (s_assign rfl) ?_; refine .op rfl (s_assign rfl) ?_; refine .nil ?_; refine xZ hK17 (c_seq fun _ hK20 => ?_); refine cR fun _ hK21 => ?_; refine oM ?_; refine oS (s_not rfl) ?_; refine oZ hK21 ?_; refine cT (cR fun _ hK22 => ?_); refine oM ?_; refine oS sN ?_; refine oS sF ?_; refine oS sL ?_; refine oS (s_lenmap (Ek := EkT) rfl meA) ?_; refine oS (step_cast (v' := .int .i64 ((ts.length + 1 : Nat) : Int)) (s_add rfl rfl (by omega)) (congrArg _ (by omega))) ?_; refine oA (oZ hK22 ?_); refine c_tail 6 (by kernel_rfl) ?_; refine .op rfl (s_move rfl) ?_; refine .op rfl (s_nil rfl) ?_; refine .op rfl (s_field rfl rfl (by decide)) ?_; refine .op rfl (s_ld rfl (.own meA rfl)) ?_; refine .op rfl (s_ldB rfl (RdPK.cels (.own meA)) tk_len) ?_; refine .op rfl (s_move rfl) ?_; refine .nil ?_; refine o_mset2 (Ek := EkT) (k := (⟨⟨n, chk (K.sr.proj s.S.cs) q 4⟩, chk_len⟩ : Tk4)) rfl rfl rfl pkA fun et' ct' hset' hel' => ?_; refine oZ hK20 (c_region (oM (oA (o_nil (x_block (xZ hK7 (c_region (oM ?_))))))))
     refine oS (step_cast (v' := .int .i64 ((4 * (q + 1) : Nat) : Int)) (s_add rfl rfl (by omega)) (congrArg _ (by omega))) ?_; refine oA (o_nil ?_); exact xI (q + 1, ts.length + 1, ts ++ [⟨n, chk (K.sr.proj s.S.cs) q 4⟩], et', ct') ⟨by dsimp only; omega, by dsimp only; rw [← hst, chunks_step (q := q) (by omega), ← chk_4, stG_no hk0], fun t => by dsimp only; rw [hset' t, fnd_snoc hk0, het t]; simp only [tk4_iff]; split <;> rfl, by dsimp only; rw [hel', hgn]; simp [hel], by dsimp only; rw [List.length_append, List.length_singleton]; omega⟩
  ·have hdn := chunks_end (l := (K.sr.proj s.S.cs)) (q := q) (by omega)
   rw [hdn] at hst
   refine oS lsF (oZ hK6 ?_); refine cF ?_; refine c_exit ?_; refine x_then_exit (x_then_exit (x_block_exit (xZ hK3 (cR fun _ hK23 => ?_)))); refine oM (oA (oZ hK23 (c_ret ?_))); refine ?_; refine x_sub (Sub.refl _) (H' := ((K.b, .cells [.slice K.ra K.re.length K.rc, .slice K.ta K.w.length K.tc, .slice K.ba K.bl.length K.bc, .slice K.xa K.R.length K.xc, .slice ({ s with S := (K.sr.code s.S).2, et := et, ct := ct } : BkS).fa (zeroF :: ({ s with S := (K.sr.code s.S).2, et := et, ct := ct } : BkS).S.fs).length ({ s with S := (K.sr.code s.S).2, et := et, ct := ct } : BkS).fc, .map (some K.bn), .map (some K.bt), .map (some K.bf), .slice K.sa (K.N + 1) K.sc, .int .i64 (({ s with S := (K.sr.code s.S).2, et := et, ct := ct } : BkS).S.fuel : Nat), .bool ({ s with S := (K.sr.code s.S).2, et := et, ct := ct } : BkS).d].toArray 103 (0, 0)) :: K.tl ({ s with S := (K.sr.code s.S).2, et := et, ct := ct } : BkS))) hzB ?_
   exact xR rfl rfl (⟨et, ct, by show Value.int .i64 (n : Int) = .int .i64 ((stG s.S.ts 0 (chunks (K.sr.proj s.S.cs))).1 : Nat); rw [← hst]; rfl, rfl, ⟨hR.fr, hR.sp, hR.cl, hR.en, fun t => by show getM et t = (fnd t.t (stG s.S.ts 0 (chunks (K.sr.proj s.S.cs))).2).map _; rw [← hst]; exact het t, by show et.length = (stG s.S.ts 0 (chunks (K.sr.proj s.S.cs))).2.length; rw [← hst]; exact hel, hR.ef⟩⟩)
end Go.Proofs.YtloepfcndglmmaaDoor
namespace Go.HL
open Go
def midA (a : Option Addr) (c lo k : Nat) : Option Addr := if c = lo then a else a.map (·.add (lo * k))
section
variable {P : Program} {κ : Cx} {L : HL.Loc} {H : Hp} {ty t : TypeId} {x y z : Operand}
theorem s_slice_mid {e s by' n c : Nat} {a : Option Addr} {kl kh : IntKind} {l h : Int} [TU P t (.slice e)] [TI P e s by'] (hx : ev L x = some (.slice a n c)) (hy : ev L y = some (.int kl l)) (hz : ev L z = some (.int kh h)) (hb : 0 ≤ l ∧ l ≤ h ∧ h ≤ c) :
    Step P κ (.slice t x (some y) (some z) none) ty L H (.slice (midA a c l.toNat s) (h.toNat - l.toNat) (c - l.toNat)) :=
  ⟨fun ρ w d pos af g hρ _ => by
    have b1 : 0 ≤ h ∧ h ≤ c := by omega
    have b2 : 0 ≤ l ∧ l ≤ (h.toNat : Int) := by omega
    have b3 : 0 ≤ l ∧ l ≤ max h 0 := by omega
    have e2 : (Instr.slice t (.slice a n c) (some (.int kl l)) (some (.int kh h)) none).run P w = .ok (.slice (midA a c l.toNat s) (h.toNat - l.toNat) (c - l.toNat)) w := by
      simp [Instr.slice, run_u, Instr.sliceBounds, Instr.sliceBound, asIntOf, b1, b2, b3, run_size, midA]
    simp [execOp, hρ _ _ hx, hρ _ _ hy, hρ _ _ hz, Instr.sliceAt, run_u, e2]⟩
end
theorem flat_mid {α : Type} (E : α → List Value) {k : Nat} [h : Enc E k] (xs : List α) (lo m : Nat) {j : Nat} {u : Value} (hu : (flat E ((xs.drop lo).take m))[j]? = some u) : (flat E xs)[lo * k + j]? = some u := by
  have e : xs = xs.take lo ++ ((xs.drop lo).take m ++ (xs.drop lo).drop m) := by rw [List.take_append_drop, List.take_append_drop]
  have hj : j < (flat E ((xs.drop lo).take m)).length := by
    rcases Nat.lt_or_ge j (flat E ((xs.drop lo).take m)).length with h' | h'
    · exact h'
    · rw [List.getElem?_eq_none h'] at hu; cases hu
  rcases Nat.lt_or_ge lo xs.length with hl | hl
  · rw [e, flat_append, flat_append]
    have hlen : (flat E (xs.take lo)).length = lo * k := by rw [flat_len, List.length_take, Nat.min_eq_left (by omega)]
    rw [List.getElem?_append_right (by omega), hlen, Nat.add_sub_cancel_left, List.getElem?_append_left hj]
    exact hu
  · rw [List.drop_of_length_le hl] at hj; simp [flat] at hj
theorem Rd.mid {α : Type} {E : α → List Value} {k : Nat} [he : Enc E k] {w : World} {a : Option Addr} {n c : Nat} {xs : List α} (h : Rd E w (.slice a n c) xs) (lo hi : Nat) (h1 : lo ≤ hi) (h2 : hi ≤ xs.length) :
    Rd E w (.slice (midA a c lo k) ((xs.drop lo).take (hi - lo)).length (c - lo)) ((xs.drop lo).take (hi - lo)) := by
  have hs := h.sl
  obtain ⟨⟨a', c', hv, hn, h0, hsp⟩, hle⟩ := hs
  simp only [Value.slice.injEq] at hv
  obtain ⟨rfl, rfl, rfl⟩ := hv
  have hlen : ((xs.drop lo).take (hi - lo)).length = hi - lo := by simp; omega
  have hA : ∀ A, midA a c lo k = some A → hi - lo ≠ 0 → A.spot = none := by
    intro A hA hz
    unfold midA at hA
    rw [if_neg (by omega)] at hA
    cases a with
    | none => cases hA
    | some B =>
      have := hsp B rfl (by omega)
      simp only [Option.map_some, Option.some.injEq] at hA
      subst hA
      unfold Addr.add
      split
      · exact this
      · rfl
  refine ⟨⟨⟨_, _, rfl, by rw [hlen]; omega, fun hm => ?_, fun A hA' hz => hA A hA' (by rw [hlen] at hz; exact hz)⟩, by rw [hlen]; omega⟩, fun j u hu => ?_⟩
  · unfold midA at hm
    split at hm
    · have := h0 hm; omega
    · cases a with
      | none => have := h0 rfl; omega
      | some B => cases hm
  · have hne : hi - lo ≠ 0 := by
      intro e
      rw [e, List.take_zero] at hu
      simp [flat] at hu
    have hg := h.get (lo * k + j) u (flat_mid E xs lo (hi - lo) hu)
    have e : ea (.slice (midA a c lo k) ((xs.drop lo).take (hi - lo)).length (c - lo)) j = ea (.slice a xs.length c) (lo * k + j) := by
      unfold midA
      rw [if_neg (by omega)]
      cases a with
      | none => have := h0 rfl; omega
      | some B =>
        simp only [ea, sblk, soff, Option.map_some, oblk, ooff]
        unfold Addr.add
        split
        · rename_i hz; rw [hz, Nat.zero_add]
        · simp only [Nat.add_assoc]
    rw [e]
    exact hg
end Go.HL
namespace Go.HL
open Go
def OldL (L : List (Sl UInt8)) (S : Hp) (w : World) : Prop := ∀ p ∈ L, Rd Eb w p.v p.xs ∧ Apart (keys S) p.v
section
variable {P : Program} {κ : Cx} {Q : Pst} {L L' : Loc} {H H' : Hp} {ops : Array Oper} {rest : List Oper} {ty : TypeId} {d : Nat} {pos : String} {af : Array Edge} {v : Value}
structure ItV (P : Program) (gf : FuncId) (us lb : List Value) {α : Type} (EV : α → List Value → Hp → Prop) (xs : List α) (pre : Hp → World → Prop) (S : Hp) (IS : Hp → Prop) : Prop where
  enters : Enters P gf
  out : ∀ (l : Nat) (HS HX : List α → Hp → Prop), (∀ pre x vs Sx B, HS pre B → pre ++ [x] <+: xs → EV x vs Sx → Yd P l vs (B ++ Sx) (fun v B' => (v = .bool true ∧ HS (pre ++ [x]) B') ∨ (v = .bool false ∧ HX (pre ++ [x]) B'))) →
    ∀ B, HS [] B → Fn P gf (us ++ [.func (.yield l) #[] #[]] ++ lb) (pre (S ++ B)) (S ++ B) (fun _ S' => ∃ S1 B', S' = S1 ++ B' ∧ IS S1 ∧ (HS xs B' ∨ ∃ p, p <+: xs ∧ HX p B'))
theorem s_slice_lo {t : TypeId} {x y : Operand} {e s by' n c : Nat} {a : Option Addr} {kl : IntKind} {l : Int} [TU P t (.slice e)] [TI P e s by'] (hx : ev L x = some (.slice a n c)) (hy : ev L y = some (.int kl l)) (hb : 0 ≤ l ∧ l ≤ n ∧ n ≤ c) :
    Step P κ (.slice t x (some y) none none) ty L H (.slice (midA a c l.toNat s) (n - l.toNat) (c - l.toNat)) :=
  ⟨fun ρ w d pos af g hρ _ => by
    have b1 : 0 ≤ l ∧ l ≤ (n : Int) := by omega
    have b3 : 0 ≤ l ∧ l ≤ max (n : Int) 0 := by omega
    have b4 : (n : Int) ≤ c := by omega
    have e2 : (Instr.slice t (.slice a n c) (some (.int kl l)) none none).run P w = .ok (.slice (midA a c l.toNat s) (n - l.toNat) (c - l.toNat)) w := by
      simp [Instr.slice, run_u, Instr.sliceBounds, Instr.sliceBound, asIntOf, b1, b3, b4, run_size, midA]
    simp [execOp, hρ _ _ hx, hρ _ _ hy, Instr.sliceAt, run_u, e2]⟩
theorem RdK.mid {α : Type} {E : α → List Value} {k : Nat} [he : Enc E k] {a : Option Addr} {n c : Nat} {xs : List α} (h : RdK E κ H (.slice a n c) xs) (lo hi : Nat) (h1 : lo ≤ hi) (h2 : hi ≤ xs.length) :
    RdK E κ H (.slice (midA a c lo k) ((xs.drop lo).take (hi - lo)).length (c - lo)) ((xs.drop lo).take (hi - lo)) := ⟨fun w st => (h.out w st).mid lo hi h1 h2⟩
end
end Go.HL
namespace Go.HL
open Go
theorem IsSl.mid {a : Option Addr} {n c k : Nat} (h : IsSl (.slice a n c) n) (lo m : Nat) (h1 : lo + m ≤ n) : IsSl (.slice (midA a c lo k) m (c - lo)) m := by
  obtain ⟨⟨a', c', hv, hn, h0, hsp⟩, hle⟩ := h
  simp only [Value.slice.injEq, true_and] at hv
  obtain ⟨rfl, rfl⟩ := hv
  refine ⟨⟨_, _, rfl, by omega, fun hm => ?_, fun A hA hz => ?_⟩, by omega⟩
  · unfold midA at hm
    split at hm
    · have := h0 hm; omega
    · cases a with
      | none => have := h0 rfl; omega
      | some B => cases hm
  · unfold midA at hA
    rw [if_neg (by omega)] at hA
    cases a with
    | none => cases hA
    | some B =>
      have := hsp B rfl (by omega)
      simp only [Option.map_some, Option.some.injEq] at hA
      subst hA
      unfold Addr.add
      split
      · exact this
      · rfl
theorem RdS.tail {α : Type} {E : α → List Value} {k : Nat} [he : Enc E k] {a : Option Addr} {c : Nat} {x : α} {l : List α} {S : Hp} (h : RdS E (.slice a (x :: l).length c) (x :: l) S) : RdS E (.slice (midA a c 1 k) l.length (c - 1)) l S :=
  ⟨fun w hw => by
    have h2 := (h.out w hw).mid 1 (x :: l).length (by simp) (Nat.le_refl _)
    have e : ((x :: l).drop 1).take ((x :: l).length - 1) = l := by simp
    rw [e] at h2
    exact h2⟩
end Go.HL
namespace Go.HL.Kl.Mc
open Go Go.HL Go.HL.Kl AskE
theorem emW_7 {x : Nd} {l : List Nd} {cs : List Sp} (h : x.op = 7) : emW (x :: l) cs = cs.getD x.n.toNat noS :: emW l (cs.set x.n.toNat noS) := by rw [emW, if_pos h]
theorem emW_n {x : Nd} {l : List Nd} {cs : List Sp} (h : ¬ x.op = 7) : emW (x :: l) cs = emW l cs := by rw [emW, if_neg h]
theorem fgt_7 {x : Nd} {l : List Nd} {cs : List Sp} (h : x.op = 7) : fgt (x :: l) cs = fgt l (cs.set x.n.toNat noS) := by
  show fgt l (fg1 cs x) = _
  rw [fg1, if_pos h]
theorem fgt_n {x : Nd} {l : List Nd} {cs : List Sp} (h : ¬ x.op = 7) : fgt (x :: l) cs = fgt l cs := by
  show fgt l (fg1 cs x) = _
  rw [fg1, if_neg h]
theorem rst_7 {x : Nd} {l : List Nd} {y : Sp} {was cs : List Sp} (h : x.op = 7) : rst (x :: l) (y :: was) cs = rst l was (cs.set x.n.toNat y) := by rw [rst, if_pos h]; rfl
theorem rst_n {x : Nd} {l : List Nd} {was cs : List Sp} (h : ¬ x.op = 7) : rst (x :: l) was cs = rst l was cs := by rw [rst, if_neg h]
def nG7 (l : List Nd) : Nat := l.countP fun x => decide (x.op = 7)
theorem nG7_7 {x : Nd} {l : List Nd} (h : x.op = 7) : nG7 (x :: l) = nG7 l + 1 := by unfold nG7; rw [List.countP_cons, if_pos (by simp [h])]
theorem nG7_n {x : Nd} {l : List Nd} (h : ¬ x.op = 7) : nG7 (x :: l) = nG7 l := by unfold nG7; rw [List.countP_cons, if_neg (by simp [h])]; rfl
theorem emW_len : ∀ (l : List Nd) (cs : List Sp), (emW l cs).length = nG7 l
  | [], _ => rfl
  | x :: l, cs => by
    by_cases h : x.op = 7
    · rw [emW_7 h, nG7_7 h, List.length_cons, emW_len]
    · rw [emW_n h, nG7_n h, emW_len]
theorem SrE.inn_len {K : SrE} {a b : Nat} (h : b ≤ K.re.length) : (K.inn a b).length = b - a := by unfold SrE.inn; rw [List.length_take, List.length_drop]; omega
theorem SrE.inn_mem {K : SrE} {a b : Nat} {x : Nd} (h : x ∈ K.inn a b) : x ∈ K.re := List.mem_of_mem_drop (List.mem_of_mem_take h)
theorem drop_get {α : Type} {l : List α} {k : Nat} {x : α} (h : l[k]? = some x) : l.drop k = x :: l.drop (k + 1) := by
  have hk := (List.getElem?_eq_some_iff.1 h).1
  rw [List.drop_eq_getElem_cons hk]
  congr 1
  rw [List.getElem?_eq_getElem hk] at h
  exact Option.some.inj h
end Go.HL.Kl.Mc
