/- The search with back-references: accounts; frames that are paid for. Conditions: none. -/
import Derived.Test.YtloepfcndglmmaaDoorMT23Z
namespace Go.HL.Kl.Mc
open Go Go.HL Go.HL.Kl AskE
/-! sums -/
theorem sum_le {α : Type} {f g : α → Nat} : ∀ {l : List α}, (∀ a ∈ l, f a ≤ g a) → (l.map f).sum ≤ (l.map g).sum
  | [], _ => Nat.le_refl _
  | a :: l, h => by
    have h1 := h a List.mem_cons_self
    have h2 := sum_le (l := l) fun b hb => h b (List.mem_cons_of_mem _ hb)
    simp only [List.map_cons, List.sum_cons]; omega
theorem sum_drop {α : Type} {f g : α → Nat} {a : α} {d : Nat} : ∀ {l : List α}, (∀ b ∈ l, f b ≤ g b) → a ∈ l → f a + d ≤ g a → (l.map f).sum + d ≤ (l.map g).sum
  | [], _, h, _ => by simp at h
  | b :: l, h, ha, hd => by
    simp only [List.map_cons, List.sum_cons]
    have h1 := h b List.mem_cons_self
    rcases List.mem_cons.1 ha with rfl | ha
    · have h2 := sum_le (l := l) fun b hb => h b (List.mem_cons_of_mem _ hb)
      omega
    · have h2 := sum_drop (l := l) (fun b hb => h b (List.mem_cons_of_mem _ hb)) ha hd
      omega
theorem fs_one {f : Caps → Option Caps} {c : Caps} : [c].findSome? f = f c := by
  rw [List.findSome?_cons]
  cases f c <;> rfl
theorem fs_flat {α : Type} {g : α → List Caps} {f : Caps → Option Caps} : ∀ {l : List α}, (l.flatMap g).findSome? f = l.findSome? (fun a => (g a).findSome? f)
  | [] => rfl
  | a :: l => by
    rw [List.flatMap_cons, List.findSome?_append, List.findSome?_cons, fs_flat (l := l)]
    cases (g a).findSome? f <;> rfl
theorem fs_map {g : Caps → Caps} {f : Caps → Option Caps} : ∀ {l : List Caps}, (l.map g).findSome? f = l.findSome? (fun a => f (g a))
  | [] => rfl
  | a :: l => by rw [List.map_cons, List.findSome?_cons, List.findSome?_cons, fs_map (l := l)]
/-! the account of the tally -/
inductive TQ
  | node (x : Nd) (ks : F) (i j : Nat) (c : Caps)
  | alt (g : F) (i j : Nat) (c : Caps)
  | row (g : F) (i j : Nat) (c : Caps)
  | rnd (x y : Nd) (js : F) (had i j : Nat) (c : Caps)
def goodT (n : Nat) (x : Nd) (c : Caps) (i j : Nat) : Prop :=
  (x.op = 1 ∧ j = i + 1) ∨ (x.op = 2 ∧ i = 0 ∧ j = 0) ∨ (x.op = 3 ∧ i = n ∧ j = n) ∨ (x.op = 8 ∧ 0 ≤ (c.getD (x.n.toNat - 1) noS).fr ∧ (c.getD (x.n.toNat - 1) noS).to - (c.getD (x.n.toNat - 1) noS).fr = (j : Int) - i)
def rEs (x : Nd) (had i j : Nat) : List Nat := if x.mx = -1 ∨ (had : Int) < x.mx then (ends i j).filter (fun e => decide (¬ (e = i ∧ x.mn ≤ (had : Int) ∧ 0 < had))) else []
def sumW (es : List Nat) (L : Nat → List Caps) (kN : Nat → Nat) (kR : Nat → Caps → Nat) : Nat := (es.map fun e => kN e + ((L e).map fun c1 => kR e c1 + 1).sum).sum
inductive Ct (n : Nat) : TQ → List Caps → Nat → Prop
  | leaf {x : Nd} {ks : F} {i j : Nat} {c : Caps} {Z : List Caps} {k : Nat} (ho : x.op = 1 ∨ x.op = 2 ∨ x.op = 3 ∨ x.op = 8) (hz : goodT n x c i j → c ∈ Z) (hk : 1 ≤ k) : Ct n (.node x ks i j c) Z k
  | cat {x : Nd} {ks : F} {i j : Nat} {c : Caps} {Z : List Caps} {k k0 : Nat} (ho : x.op = 4) (h : Ct n (.row ks i j c) Z k0) (hk : k0 + 2 ≤ k) : Ct n (.node x ks i j c) Z k
  | rep {x y : Nd} {js : F} {i j : Nat} {c : Caps} {Z : List Caps} {k k0 : Nat} (ho : x.op = 6) (h : Ct n (.rnd x y js 0 i j c) Z k0) (hk : k0 + 2 ≤ k) : Ct n (.node x (.nd y js .nil) i j c) Z k
  | grp {x y : Nd} {js : F} {i j : Nat} {c : Caps} {Z L : List Caps} {k k0 : Nat} (ho : x.op = 7) (h : Ct n (.node y js i j (emp (F.nd y js .nil).flat c)) L k0) (hz : ∀ d ∈ L, d.set (x.n.toNat - 1) ⟨i, j⟩ ∈ Z) (hk : k0 + L.length + 1 ≤ k) : Ct n (.node x (.nd y js .nil) i j c) Z k
  | altC {x : Nd} {ks : F} {i j : Nat} {c : Caps} {Z : List Caps} {k k0 : Nat} (ho : x.op = 5) (h : Ct n (.alt ks i j c) Z k0) (hk : k0 + 1 ≤ k) : Ct n (.node x ks i j c) Z k
  | altNil {i j : Nat} {c : Caps} {Z : List Caps} {k : Nat} : Ct n (.alt .nil i j c) Z k
  | altCons {y : Nd} {js r : F} {i j : Nat} {c : Caps} {Z Z1 Z2 : List Caps} {k k1 k2 : Nat} (h1 : Ct n (.node y js i j c) Z1 k1) (h2 : Ct n (.alt r i j c) Z2 k2) (hz1 : ∀ d ∈ Z1, d ∈ Z) (hz2 : ∀ d ∈ Z2, d ∈ Z) (hk : k1 + k2 ≤ k) : Ct n (.alt (.nd y js r) i j c) Z k
  | rowNil {i j : Nat} {c : Caps} {Z : List Caps} {k : Nat} (hz : i = j → c ∈ Z) : Ct n (.row .nil i j c) Z k
  | rowCons {y : Nd} {js r : F} {i j : Nat} {c : Caps} {Z : List Caps} {k : Nat} {es : List Nat} {L : Nat → List Caps} {kN : Nat → Nat} {R : Nat → Caps → List Caps} {kR : Nat → Caps → Nat} (hes : es = if r.num = 0 then [j] else ends i j)
      (h1 : ∀ e, e ∈ es → Ct n (.node y js i e c) (L e) (kN e)) (h2 : ∀ e, e ∈ es → ∀ c1, c1 ∈ L e → Ct n (.row r e j c1) (R e c1) (kR e c1)) (hz : ∀ e, e ∈ es → ∀ c1, c1 ∈ L e → ∀ d, d ∈ R e c1 → d ∈ Z) (hk : sumW es L kN kR ≤ k) : Ct n (.row (.nd y js r) i j c) Z k
  | rnd {x y : Nd} {js : F} {had i j : Nat} {c : Caps} {Z : List Caps} {k : Nat} {es : List Nat} {L : Nat → List Caps} {kN : Nat → Nat} {R : Nat → Caps → List Caps} {kR : Nat → Caps → Nat} (hes : es = rEs x had i j)
      (h1 : ∀ e, e ∈ es → Ct n (.node y js i e (emp (F.nd y js .nil).flat c)) (L e) (kN e)) (h2 : ∀ e, e ∈ es → ∀ c1, c1 ∈ L e → Ct n (.rnd x y js (had + 1) e j c1) (R e c1) (kR e c1)) (hz : ∀ e, e ∈ es → ∀ c1, c1 ∈ L e → ∀ d, d ∈ R e c1 → d ∈ Z) (hz2 : i = j → x.mn ≤ (had : Int) → c ∈ Z) (hk : sumW es L kN kR ≤ k) : Ct n (.rnd x y js had i j c) Z k
/-! what a run gives -/
structure CapOk (K : SrE) (N : Nat) (c : Caps) : Prop where
  len : c.length = N
  ok : ∀ s ∈ c, s = noS ∨ (0 ≤ s.fr ∧ s.fr ≤ s.to ∧ s.to ≤ K.w.length)
theorem CapOk.set {K : SrE} {N : Nat} {c : Caps} (h : CapOk K N c) {i j : Nat} (hij : i ≤ j) (hj : j ≤ K.w.length) (n : Nat) : CapOk K N (c.set n ⟨i, j⟩) := ⟨by rw [List.length_set, h.len], fun s hs => by
  rcases List.mem_or_eq_of_mem_set hs with hs | rfl
  · exact h.ok s hs
  · exact .inr ⟨by simp, by simpa using hij, by simpa using hj⟩⟩
theorem CapOk.emp {K : SrE} {N : Nat} : ∀ (l : List Nd) {c : Caps}, CapOk K N c → CapOk K N (emp l c)
  | [], _, h => h
  | x :: l, c, h => by
    show CapOk K N (Mc.emp l (em1 c x))
    refine CapOk.emp l ?_
    unfold em1
    split
    · exact ⟨by rw [List.length_set, h.len], fun s hs => by
        rcases List.mem_or_eq_of_mem_set hs with hs | rfl
        · exact h.ok s hs
        · exact .inl rfl⟩
    · exact h
structure Res (K : SrE) (N : Nat) (S S' : SS) (b : Bool) (sem : Option Caps) (k : Nat) (Φ : SS → Nat) : Prop where
  inv : Inv K N S'
  ext : Ext S S'
  yes : b = true → ∃ r, sem = some r ∧ CapOk K N r ∧ S'.cs = noS :: r ∧ S'.wk ≤ S.wk + k + Φ S
  no : b = false → sem = none ∧ S'.cs = S.cs ∧ S'.wk + Φ S' ≤ S.wk + k + Φ S
def Anti (Φ : SS → Nat) : Prop := ∀ S S', Ext S S' → Φ S' ≤ Φ S
def NextOK (K : SrE) (N : Nat) (S0 : SS) (up j : Nat) (Z : List Caps) (Φ : SS → Nat) : Prop := ∀ S c, Ext S0 S → Inv K N S → c ∈ Z → CapOk K N c → S.cs = noS :: c → Φ S ≤ S.fuel → ∃ b S', Ev K S (.next up j) b S' ∧ Res K N S S' b (K.kont S.fs up j c) 0 Φ
theorem NextOK.mono {K : SrE} {N : Nat} {S0 S1 : SS} {up j : Nat} {Z Z' : List Caps} {Φ : SS → Nat} (h : NextOK K N S0 up j Z Φ) (he : Ext S0 S1) (hz : ∀ d ∈ Z', d ∈ Z) : NextOK K N S1 up j Z' Φ := fun S c hx hI hc => h S c (he.trans hx) hI (hz c hc)
def dn (K : SrE) (S : SS) (u e : Nat) (c1 : Caps) : Prop := ∃ t, Dec S.ts 0 (chunks (K.proj (noS :: c1))) t ∧ (⟨u, e, t⟩ : Pt) ∈ S.F
theorem dn.mono {K : SrE} {S S' : SS} (h : Ext S S') {u e : Nat} {c1 : Caps} (hd : dn K S u e c1) : dn K S' u e c1 := by
  obtain ⟨t, h1, h2⟩ := hd
  obtain ⟨a, ha⟩ := h.ts
  exact ⟨t, by rw [ha]; exact h1.mono, h.F _ h2⟩
open Classical in
noncomputable def pend (K : SrE) (u : Nat) (es : List Nat) (L : Nat → List Caps) (kR : Nat → Caps → Nat) (S : SS) : Nat := (es.map fun e => ((L e).map fun c1 => if dn K S u e c1 then 0 else kR e c1 + 1).sum).sum
theorem pend_anti {K : SrE} {u : Nat} {es : List Nat} {L : Nat → List Caps} {kR : Nat → Caps → Nat} : Anti (pend K u es L kR) := fun S S' h => sum_le fun e _ => sum_le fun c1 _ => by
  by_cases hd : dn K S u e c1
  · rw [if_pos hd, if_pos (hd.mono h)]; exact Nat.le_refl _
  · rw [if_neg hd]
    split
    · omega
    · exact Nat.le_refl _
theorem pend_le {K : SrE} {u : Nat} {es : List Nat} {L : Nat → List Caps} {kR : Nat → Caps → Nat} {S : SS} : pend K u es L kR S ≤ (es.map fun e => ((L e).map fun c1 => kR e c1 + 1).sum).sum := sum_le fun e _ => sum_le fun c1 _ => by
  split
  · omega
  · exact Nat.le_refl _
theorem pend_sumW {K : SrE} {u : Nat} {kN : Nat → Nat} {L : Nat → List Caps} {kR : Nat → Caps → Nat} {S : SS} : ∀ {es : List Nat}, (es.map kN).sum + pend K u es L kR S ≤ sumW es L kN kR
  | [] => by simp [pend, sumW]
  | e :: es => by
    have h1 := pend_sumW (K := K) (u := u) (kN := kN) (L := L) (kR := kR) (S := S) (es := es)
    have h2 := pend_le (K := K) (u := u) (es := [e]) (L := L) (kR := kR) (S := S)
    simp only [pend, sumW, List.map_cons, List.sum_cons, List.map_nil, List.sum_nil] at h1 h2 ⊢
    omega
open Classical in
theorem pend_drop {K : SrE} {u e : Nat} {es : List Nat} {L : Nat → List Caps} {kR : Nat → Caps → Nat} {S S' : SS} {c1 : Caps} (h : Ext S S') (he : e ∈ es) (hc : c1 ∈ L e) (hd : dn K S' u e c1) (hn : ¬ dn K S u e c1) : pend K u es L kR S' + (kR e c1 + 1) ≤ pend K u es L kR S := by
  have hm : ∀ e c1, (if dn K S' u e c1 then 0 else kR e c1 + 1) ≤ (if dn K S u e c1 then 0 else kR e c1 + 1) := fun e c1 => by
    by_cases hd : dn K S u e c1
    · rw [if_pos hd, if_pos (hd.mono h)]; exact Nat.le_refl _
    · rw [if_neg hd]
      split
      · omega
      · exact Nat.le_refl _
  refine sum_drop (fun e _ => sum_le fun c1 _ => hm e c1) he (sum_drop (fun c1 _ => hm e c1) hc ?_)
  rw [if_pos hd, if_neg hn]; omega
open Classical in
theorem pend_ge {K : SrE} {u e : Nat} {es : List Nat} {L : Nat → List Caps} {kR : Nat → Caps → Nat} {S : SS} {c1 : Caps} (he : e ∈ es) (hc : c1 ∈ L e) (hn : ¬ dn K S u e c1) : kR e c1 + 1 ≤ pend K u es L kR S := by
  have h := sum_drop (f := fun _ => 0) (g := fun e => ((L e).map fun c1 => if dn K S u e c1 then 0 else kR e c1 + 1).sum) (d := kR e c1 + 1) (l := es) (fun _ _ => Nat.zero_le _) he (by
    have h2 := sum_drop (f := fun _ => 0) (g := fun c1 => if dn K S u e c1 then 0 else kR e c1 + 1) (d := kR e c1 + 1) (l := L e) (fun _ _ => Nat.zero_le _) hc (by rw [if_neg hn]; omega)
    omega)
  unfold pend
  omega
theorem frame_ok {K : SrE} {N : Nat} (hR : ∀ x ∈ K.re, x.op = 8 → 1 ≤ x.n ∧ x.n.toNat ∈ K.R) {S0 : SS} {k : Nat} {f : Frm} {Φ : SS → Nat} (hΦ : Anti Φ) {es : List Nat} {L : Nat → List Caps} {kR : Nat → Caps → Nat} (hf : S0.fs[k]? = some f)
    (hB : ∀ e ∈ es, ∀ c1 ∈ L e, ∀ S, Ext S0 S → Inv K N S → CapOk K N c1 → S.cs = noS :: c1 → kR e c1 + Φ S ≤ S.fuel → ∃ b S', Ev K S (.body f e) b S' ∧ Res K N S S' b (K.kont S.fs (k + 1) e c1) (kR e c1) Φ) {e : Nat} (he : e ∈ es) :
    NextOK K N S0 (k + 1) e (L e) (fun S => Φ S + pend K (k + 1) es L kR S) := by
  intro S c hx hI hc hl hcs hfu
  obtain ⟨x1, I1, D1⟩ := code_spec S hI
  rw [hcs] at D1
  by_cases hm : (⟨k + 1, e, (K.code S).1⟩ : Pt) ∈ S.F
  · refine ⟨false, _, .nextMemo hm, I1, x1, fun h => (by cases h), fun _ => ⟨I1.bad hR (u := k + 1) (at_ := e) hm hl.len D1, rfl, ?_⟩⟩
    have h1 := hΦ _ _ x1
    have h2 := pend_anti (K := K) (u := k + 1) (es := es) (L := L) (kR := kR) _ _ x1
    have h3 : (K.code S).2.wk = S.wk := rfl
    dsimp only at hfu ⊢
    omega
  · have hf' := hx.get hf
    have xS : Ext S { (K.code S).2 with wk := S.wk + 1 } := ⟨x1.fs, x1.ts, x1.F⟩
    have I2 : Inv K N { (K.code S).2 with wk := S.wk + 1 } := ⟨I1.ch, I1.nd, I1.memo⟩
    have hn1 : ¬ dn K { (K.code S).2 with wk := S.wk + 1 } (k + 1) e c := fun ⟨t, d, m⟩ => by
      have := Dec.fn I1.nd d D1
      subst this
      exact hm m
    have hn : ¬ dn K S (k + 1) e c := fun h => hn1 (h.mono xS)
    have hp := pend_ge (K := K) (u := k + 1) (kR := kR) he hc hn
    have h1 := hΦ _ _ xS
    have hfu2 : ({ (K.code S).2 with wk := S.wk + 1 } : SS).fuel = S.fuel := rfl
    dsimp only at hfu
    obtain ⟨b, S2, ev, res⟩ := hB e he c hc _ (hx.trans xS) I2 hl hcs (by rw [hfu2]; omega)
    have hwk : ({ (K.code S).2 with wk := S.wk + 1 } : SS).wk = S.wk + 1 := rfl
    refine ⟨b, S2.fail b ⟨k + 1, e, (K.code S).1⟩, .nextGo hm hf' ev, ?_⟩
    cases b with
    | true =>
      refine ⟨res.inv, xS.trans res.ext, fun _ => ?_, fun h => by cases h⟩
      obtain ⟨r, r1, r2, r3, r4⟩ := res.yes rfl
      refine ⟨r, r1, r2, r3, ?_⟩
      show S2.wk ≤ _
      rw [hwk] at r4
      omega
    | false =>
      obtain ⟨r1, r2, r3⟩ := res.no rfl
      have hle := (hx.trans (xS.trans res.ext)).le
      have hk := (List.getElem?_eq_some_iff.1 hf).1
      have hu : k + 1 ≤ ({ (K.code S).2 with wk := S.wk + 1 } : SS).fs.length := by
        have := (List.getElem?_eq_some_iff.1 hf').1
        show k + 1 ≤ S.fs.length
        omega
      have hd2 : Dec S2.ts 0 (chunks (K.proj (noS :: c))) (K.code S).1 := by
        obtain ⟨a, ha⟩ := res.ext.ts
        rw [ha]; exact D1.mono
      have hk2 : K.kont S2.fs (k + 1) e c = none := by
        rw [I2.kont res.inv res.ext hu]; exact r1
      have xF : Ext S2 (S2.fail false ⟨k + 1, e, (K.code S).1⟩) := ⟨⟨[], by simp [SS.fail]⟩, ⟨[], by simp [SS.fail]⟩, fun p hp => by simp [SS.fail, hp]⟩
      have xA := xS.trans (res.ext.trans xF)
      refine ⟨?_, xA, fun h => (by cases h), fun _ => ⟨r1, r2, ?_⟩⟩
      · show Inv K N (if false = true then S2 else { S2 with F := ⟨k + 1, e, (K.code S).1⟩ :: S2.F })
        rw [if_neg (by decide)]
        exact res.inv.fail (by omega) (by omega) hl.len hd2 hk2
      · have hdn : dn K (S2.fail false ⟨k + 1, e, (K.code S).1⟩) (k + 1) e c := ⟨_, hd2, by simp [SS.fail]⟩
        have hpd := pend_drop (K := K) (u := k + 1) (L := L) (kR := kR) xA he hc hdn hn
        have h2 := hΦ _ _ xF
        have hw2 : (S2.fail false ⟨k + 1, e, (K.code S).1⟩).wk = S2.wk := rfl
        rw [hwk] at r3
        skip
        omega
end Go.HL.Kl.Mc
namespace Go.HL.Kl.Mc
open Go Go.HL Go.HL.Kl AskE
structure SrE.ok (K : SrE) (N : Nat) : Prop where
  ref : ∀ x ∈ K.re, x.op = 8 → 1 ≤ x.n ∧ x.n.toNat ∈ K.R
  grp : ∀ x ∈ K.re, x.op = 7 → 1 ≤ x.n ∧ x.n.toNat ≤ N
  nd : (gl K.re).Nodup
/-! groups emptied, and restored -/
theorem rst_set {n : Nat} {v : Sp} : ∀ (l : List Nd) (W C : List Sp), n ∉ gl l → rst l W (C.set n v) = (rst l W C).set n v
  | [], _, _, _ => rfl
  | x :: l, W, C, h => by
    rw [gl_cons] at h
    unfold rst
    by_cases h7 : x.op = 7
    · rw [if_pos h7] at h
      have hne : x.n.toNat ≠ n := fun e => h (by simp [e])
      rw [if_pos h7, if_pos h7, List.set_comm _ _ hne.symm]
      exact rst_set l _ _ fun hm => h (by simp [hm])
    · rw [if_neg h7] at h
      rw [if_neg h7, if_neg h7]
      exact rst_set l _ _ fun hm => h (by simpa using hm)
theorem rst_emW : ∀ (l : List Nd) (cs : List Sp), (gl l).Nodup → (∀ i ∈ gl l, i < cs.length) → rst l (emW l cs) (fgt l cs) = cs
  | [], _, _, _ => rfl
  | x :: l, cs, hn, hr => by
    rw [gl_cons] at hn hr
    have e : fgt (x :: l) cs = fgt l (fg1 cs x) := rfl
    rw [e]
    unfold rst emW fg1
    by_cases h7 : x.op = 7
    · rw [if_pos h7] at hn hr
      rw [if_pos h7, if_pos h7, if_pos h7]
      have h1 : x.n.toNat ∉ gl l := fun hm => (List.nodup_append.1 hn).2.2 x.n.toNat (by simp) x.n.toNat hm rfl
      have h2 : (gl l).Nodup := (List.nodup_append.1 hn).2.1
      have hlt : x.n.toNat < cs.length := hr _ (by simp)
      simp only [List.tail_cons, List.headD_cons]
      rw [rst_set l _ _ h1, rst_emW l _ h2 (fun i hi => by rw [List.length_set]; exact hr i (by simp [hi])), List.set_set]
      apply List.ext_getElem?
      intro m
      by_cases em : x.n.toNat = m
      · subst em
        rw [List.getElem?_set_self hlt, List.getD_eq_getElem?_getD, List.getElem?_eq_getElem hlt]; rfl
      · rw [List.getElem?_set_ne em]
    · rw [if_neg h7] at hn hr
      rw [if_neg h7, if_neg h7, if_neg h7]
      exact rst_emW l cs (by simpa using hn) fun i hi => hr i (by simpa using hi)
theorem fgt_cons : ∀ (l : List Nd) (c : Caps), (∀ x ∈ l, x.op = 7 → 1 ≤ x.n) → fgt l (noS :: c) = noS :: emp l c
  | [], _, _ => rfl
  | x :: l, c, h => by
    have e : fgt (x :: l) (noS :: c) = fgt l (fg1 (noS :: c) x) := rfl
    have e2 : emp (x :: l) c = emp l (em1 c x) := rfl
    have e3 : fg1 (noS :: c) x = noS :: em1 c x := by
      unfold fg1 em1
      by_cases h7 : x.op = 7
      · have h1 := h x List.mem_cons_self h7
        rw [if_pos h7, if_pos h7]
        obtain ⟨m, hm⟩ : ∃ m, x.n.toNat = m + 1 := ⟨x.n.toNat - 1, by omega⟩
        rw [hm, List.set_cons_succ, Nat.add_sub_cancel]
      · rw [if_neg h7, if_neg h7]
    rw [e, e2, e3]
    exact fgt_cons l _ fun y hy => h y (List.mem_cons_of_mem _ hy)
section
variable {K : SrE} {N : Nat} {x : Nd} {ks : F} {at_ e0 : Nat}
theorem SrE.bh_eq (hp : Part K.re (.nd x ks .nil) at_ e0) : K.bh at_ = at_ + 1 + ks.size := by
  have h := foAt_eq hp
  have h1 : (F.nd x ks .nil).num = 1 := by simp [F.num]
  rw [h1] at h
  unfold SrE.bh
  rw [h]
  simp only [F.size]; omega
theorem SrE.inn_eq (hp : Part K.re (.nd x ks .nil) at_ e0) : K.inn (at_ + 1) (K.bh at_) = ks.flat := by
  rw [SrE.bh_eq hp]
  obtain ⟨_, h2, _⟩ := hp.head
  unfold SrE.inn
  rw [h2.flat, show at_ + 1 + ks.size - (at_ + 1) = ks.flat.length by rw [F.flat_size]; omega, List.take_left]
theorem SrE.ok.sub (hK : K.ok N) {g : F} {k e : Nat} (hp : Part K.re g k e) : (gl g.flat).Nodup ∧ ∀ i ∈ gl g.flat, i < N + 1 := by
  have h := hK.nd
  have e1 : K.re = K.re.take k ++ (g.flat ++ K.re.drop e) := by rw [← hp.flat, List.take_append_drop]
  rw [e1, gl_app, gl_app] at h
  refine ⟨(List.nodup_append.1 (List.nodup_append.1 h).2.1).1, fun i hi => ?_⟩
  obtain ⟨y, hy, rfl⟩ := List.mem_map.1 hi
  rw [List.mem_filter] at hy
  have := (hK.grp y (hp.mem hy.1) (by simpa using hy.2)).2
  omega
theorem SrE.ok.emp (hK : K.ok N) (hp : Part K.re (.nd x ks .nil) at_ e0) (c : Caps) : fgt (K.inn (at_ + 1) (K.bh at_)) (noS :: c) = noS :: emp ks.flat c := by
  rw [SrE.inn_eq hp]
  exact fgt_cons _ _ fun y hy h7 => (hK.grp y (hp.head.2.1.mem hy) h7).1
theorem SrE.ok.rst (hK : K.ok N) (hp : Part K.re (.nd x ks .nil) at_ e0) {c : Caps} (hc : c.length = N) : rst (K.inn (at_ + 1) (K.bh at_)) (emW (K.inn (at_ + 1) (K.bh at_)) (noS :: c)) (fgt (K.inn (at_ + 1) (K.bh at_)) (noS :: c)) = noS :: c := by
  rw [SrE.inn_eq hp]
  obtain ⟨h1, h2⟩ := hK.sub hp.head.2.1
  exact rst_emW _ _ h1 fun i hi => by have := h2 i hi; simp; omega
end
/-! single nodes -/
theorem good_LF {K : SrE} {N : Nat} {x : Nd} {ks : F} {i j : Nat} {c : Caps} (hij : i ≤ j) (hj : j ≤ K.w.length) (hc : CapOk K N c) (hr : x.op = 8 → 1 ≤ x.n) (ho : x.op = 1 ∨ x.op = 2 ∨ x.op = 3 ∨ x.op = 8) :
    (K.good x (noS :: c) i j → LF1 K.w x ks i j c = [c] ∧ goodT K.w.length x c i j) ∧ (¬ K.good x (noS :: c) i j → LF1 K.w x ks i j c = []) := by
  rcases ho with h | h | h | h
  · rw [LF1_1 h]
    constructor
    · rintro (⟨_, a, b⟩ | ⟨a, _⟩ | ⟨a, _⟩ | ⟨a, _⟩)
      · exact ⟨if_pos ⟨a, b⟩, .inl ⟨h, a⟩⟩
      all_goals omega
    · intro hn; exact if_neg fun hh => hn (.inl ⟨h, hh⟩)
  · rw [LF1_2 h]
    constructor
    · rintro (⟨a, _⟩ | ⟨_, a⟩ | ⟨a, _⟩ | ⟨a, _⟩)
      · omega
      · exact ⟨if_pos ⟨by omega, a⟩, .inr (.inl ⟨h, by omega, a⟩)⟩
      all_goals omega
    · intro hn; exact if_neg fun hh => hn (.inr (.inl ⟨h, hh.2⟩))
  · rw [LF1_3 h]
    constructor
    · rintro (⟨a, _⟩ | ⟨a, _⟩ | ⟨_, a⟩ | ⟨a, _⟩)
      · omega
      · omega
      · exact ⟨if_pos ⟨a, by omega⟩, .inr (.inr (.inl ⟨h, a, by omega⟩))⟩
      · omega
    · intro hn; exact if_neg fun hh => hn (.inr (.inr (.inl ⟨h, hh.1⟩)))
  · have h1 := hr h
    obtain ⟨m, hm⟩ : ∃ m, x.n.toNat = m + 1 := ⟨x.n.toNat - 1, by omega⟩
    have hg : (noS :: c).getD x.n.toNat noS = c.getD (x.n.toNat - 1) noS := by rw [hm]; simp
    rw [LF1_8 h]
    generalize hs : c.getD (x.n.toNat - 1) noS = s at hg
    have hsv : s = noS ∨ (0 ≤ s.fr ∧ s.fr ≤ s.to ∧ s.to ≤ K.w.length) := by
      rw [List.getD_eq_getElem?_getD] at hs
      cases hq : c[x.n.toNat - 1]? with
      | none => rw [hq] at hs; exact .inl hs.symm
      | some v =>
        rw [hq] at hs
        have hs : v = s := hs
        subst hs
        exact hc.ok v (List.mem_of_getElem? hq)
    have hlen : ∀ (a b : Nat), a ≤ b → b ≤ K.w.length → ((K.w.drop a).take (b - a)).length = b - a := fun a b h1 h2 => by rw [List.length_take, List.length_drop]; omega
    constructor
    · rintro (⟨a, _⟩ | ⟨a, _⟩ | ⟨a, _⟩ | ⟨_, a, b⟩)
      · omega
      · omega
      · omega
      · rw [hg] at a b
        obtain ⟨v1, v2, v3⟩ := hsv.resolve_left a
        have hl := congrArg List.length b
        rw [hlen i j hij hj, show (s.to - s.fr).toNat = s.to.toNat - s.fr.toNat by omega, hlen _ _ (by omega) (by omega)] at hl
        have e1 : s.to - s.fr = (j : Int) - i := by omega
        refine ⟨if_pos ?_, .inr (.inr (.inr ⟨h, by rw [hs]; exact v1, by rw [hs]; exact e1⟩))⟩
        unfold sameAt
        rw [Bool.and_eq_true, decide_eq_true_eq, decide_eq_true_eq]
        refine ⟨⟨v1, e1⟩, ?_⟩
        rw [show j - i = (s.to - s.fr).toNat by omega]
        rw [show (s.to - s.fr).toNat = j - i by omega] at b ⊢
        exact b
    · intro hn
      refine if_neg fun hh => hn (.inr (.inr (.inr ⟨h, ?_⟩)))
      unfold sameAt at hh
      rw [Bool.and_eq_true, decide_eq_true_eq, decide_eq_true_eq] at hh
      obtain ⟨⟨a1, a2⟩, a3⟩ := hh
      rw [hg]
      refine ⟨fun e => by rw [e] at a1; exact absurd a1 (by decide), ?_⟩
      rw [show (s.to - s.fr).toNat = j - i by omega]
      exact a3
/-! small steps -/
section
variable {K : SrE} {N : Nat} {S : SS}
theorem tick_ext : Ext S S.tick := ⟨⟨[], by simp [SS.tick]⟩, ⟨[], by simp [SS.tick]⟩, fun _ h => h⟩
theorem Inv.same {S1 : SS} (h : Inv K N S) (h1 : S1.fs = S.fs) (h2 : S1.ts = S.ts) (h3 : S1.F = S.F) : Inv K N S1 := ⟨by rw [h1]; exact h.ch, by rw [h2]; exact h.nd, by rw [h1, h2, h3]; exact h.memo⟩
theorem Ext.same {S1 : SS} (h1 : S1.fs = S.fs) (h2 : S1.ts = S.ts) (h3 : S1.F = S.F) : Ext S S1 := ⟨⟨[], by simp [h1]⟩, ⟨[], by simp [h2]⟩, fun p hp => by rw [h3]; exact hp⟩
theorem Res.lift {S1 S' : SS} {b : Bool} {sem1 sem : Option Caps} {k1 k : Nat} {Φ1 Φ : SS → Nat} (h : Res K N S1 S' b sem1 k1 Φ1) (he : Ext S S1) (hs : sem1 = sem) (hcs : S1.cs = S.cs) (hw : S1.wk + k1 + Φ1 S1 ≤ S.wk + k + Φ S) (hΦ : ∀ S', Φ S' ≤ Φ1 S') : Res K N S S' b sem k Φ := by
  refine ⟨h.inv, he.trans h.ext, fun hb => ?_, fun hb => ?_⟩
  · obtain ⟨r, r1, r2, r3, r4⟩ := h.yes hb
    exact ⟨r, by rw [← hs]; exact r1, r2, r3, by omega⟩
  · obtain ⟨r1, r2, r3⟩ := h.no hb
    have := hΦ S'
    exact ⟨by rw [← hs]; exact r1, r2.trans hcs, by omega⟩
end
def capK (x : Nd) (had : Nat) : Nat := if x.mx < 0 then min had (max x.mn.toNat 1) else had
theorem satK_cap {x : Nd} {had : Nat} : satK x (capK x had) = capK x (had + 1) := by
  unfold satK capK
  split <;> omega
/-! what is to be shown, by kind -/
def NodeTgt (K : SrE) (N : Nat) (x : Nd) (ks : F) (i j : Nat) (c : Caps) (Z : List Caps) (k : Nat) : Prop := ∀ (at_ e0 : Nat) (S : SS) (up : Nat) (Φ : SS → Nat), Part K.re (.nd x ks .nil) at_ e0 → i ≤ j → j ≤ K.w.length → CapOk K N c → Inv K N S → S.cs = noS :: c → up ≤ S.fs.length → Anti Φ → NextOK K N S up j Z Φ → k + Φ S ≤ S.fuel →
  ∃ b S', Ev K S (.take at_ i j up) b S' ∧ Res K N S S' b ((LF1 K.w x ks i j c).findSome? (K.kont S.fs up j)) k Φ
def AltTgt (K : SrE) (N : Nat) (g : F) (i j : Nat) (c : Caps) (Z : List Caps) (k : Nat) : Prop := ∀ (kid e0 : Nat) (S : SS) (up : Nat) (Φ : SS → Nat), Part K.re g kid e0 → i ≤ j → j ≤ K.w.length → CapOk K N c → Inv K N S → S.cs = noS :: c → up ≤ S.fs.length → Anti Φ → NextOK K N S up j Z Φ → k + Φ S ≤ S.fuel →
  ∃ b S', Ev K S (.alt kid g.num i j up) b S' ∧ Res K N S S' b ((LF K.w g true i j c).findSome? (K.kont S.fs up j)) k Φ
def RowTgt (K : SrE) (N : Nat) (g : F) (i j : Nat) (c : Caps) (Z : List Caps) (k : Nat) : Prop := ∀ (f : Frm) (x : Nd) (e0 : Nat) (S : SS) (Φ : SS → Nat), K.re[f.node]? = some x → x.op = 4 → Part K.re g f.kid e0 → f.left = g.num → f.to = j → i ≤ j → j ≤ K.w.length → CapOk K N c → Inv K N S → S.cs = noS :: c → f.up ≤ S.fs.length → Anti Φ → NextOK K N S f.up j Z Φ → k + Φ S ≤ S.fuel →
  ∃ b S', Ev K S (.row f i) b S' ∧ Res K N S S' b ((LF K.w g false i j c).findSome? (K.kont S.fs f.up j)) k Φ
def RndTgt (K : SrE) (N : Nat) (x y : Nd) (js : F) (had i j : Nat) (c : Caps) (Z : List Caps) (k : Nat) : Prop := ∀ (f : Frm) (e0 : Nat) (S : SS) (Φ : SS → Nat), Part K.re (.nd x (.nd y js .nil) .nil) f.node e0 → x.op = 6 → f.kid = capK x had → f.to = j → i ≤ j → j ≤ K.w.length → CapOk K N c → Inv K N S → S.cs = noS :: c → f.up ≤ S.fs.length → Anti Φ → NextOK K N S f.up j Z Φ → k + Φ S ≤ S.fuel →
  ∃ b S', Ev K S (.rnd f i) b S' ∧ Res K N S S' b ((RLf x (K.kidsB f.node) j f.kid i c).findSome? (K.kont S.fs f.up j)) k Φ
section
variable {K : SrE} {N : Nat}
theorem sr_leaf (hK : K.ok N) {x : Nd} {ks : F} {i j : Nat} {c : Caps} {Z : List Caps} {k : Nat} (ho : x.op = 1 ∨ x.op = 2 ∨ x.op = 3 ∨ x.op = 8) (hz : goodT K.w.length x c i j → c ∈ Z) (hk : 1 ≤ k) : NodeTgt K N x ks i j c Z k := by
  intro at_ e0 S up Φ hp hij hj hc hI hcs hup hΦ hN hfu
  have hx := hp.head.1
  have xT : Ext S S.tick := tick_ext
  have IT : Inv K N S.tick := hI.same rfl rfl rfl
  have hΦT := hΦ _ _ xT
  have hf : 0 < S.fuel := by omega
  have htf : S.tick.fuel = S.fuel - 1 := rfl
  have htw : S.tick.wk = S.wk + 1 := rfl
  obtain ⟨g1, g2⟩ := good_LF (K := K) (ks := ks) hij hj hc (fun h8 => (hK.ref x (List.mem_of_getElem? hx) h8).1) ho
  by_cases hg : K.good x (noS :: c) i j
  · obtain ⟨l1, l2⟩ := g1 hg
    obtain ⟨b, S', ev, res⟩ := hN S.tick c xT IT (hz l2) hc hcs (by omega)
    exact ⟨b, S', .takeYes hx hf ho (by rw [hcs]; exact hg) ev, res.lift xT (by rw [l1, fs_one]; rfl) rfl (by omega) fun _ => Nat.le_refl _⟩
  · exact ⟨false, S.tick, .takeNo hx hf ho (by rw [hcs]; exact hg), IT, xT, fun h => (by cases h), fun _ => ⟨by rw [g2 hg]; rfl, rfl, by omega⟩⟩
theorem sr_cat (hK : K.ok N) {x : Nd} {ks : F} {i j : Nat} {c : Caps} {Z : List Caps} {k k0 : Nat} (ho : x.op = 4) (ih : RowTgt K N ks i j c Z k0) (hk : k0 + 2 ≤ k) : NodeTgt K N x ks i j c Z k := by
  intro at_ e0 S up Φ hp hij hj hc hI hcs hup hΦ hN hfu
  obtain ⟨hx, hpk, _⟩ := hp.head
  have xT : Ext S S.tick := tick_ext
  have IT : Inv K N S.tick := hI.same rfl rfl rfl
  have hΦT := hΦ _ _ xT
  have hf : 0 < S.fuel := by omega
  have htf : S.tick.fuel = S.fuel - 1 := rfl
  have htw : S.tick.wk = S.wk + 1 := rfl
  have hkn : x.kids.toNat = ks.num := by have h : (ks.num : Int) = x.kids := hp.wf.2.1; omega
  generalize hpu : S.tick.push ⟨up, at_, at_ + 1, x.kids.toNat, i, j⟩ = pr
  obtain ⟨u, S2⟩ := pr
  obtain ⟨xp, Ip, q, rfl, hf0⟩ := push_spec hpu IT hup
  obtain ⟨_, p2, p3, p4, _, _⟩ := SS.push_sz hpu
  have x2 : Ext S S2 := xT.trans xp
  have hΦ2 := hΦ _ _ x2
  have hfo : foAt K.re (at_ + 1) x.kids.toNat = ks := by rw [hkn]; exact foAt_eq hpk
  have hsem : ∀ S3, Ext S2 S3 → Inv K N S3 → K.kont S3.fs (q + 1) i c = (LF K.w ks false i j c).findSome? (K.kont S3.fs up j) := fun S3 x3 I3 => by
    rw [SrE.kont_succ I3.ch (x3.get hf0) hx, if_pos ho]
    dsimp only
    rw [hfo]
  have hNx := frame_ok (N := N) hK.ref hΦ (es := [i]) (L := fun _ => [c]) (kR := fun _ _ => k0) hf0 (fun e he c1 hc1 S3 x3 I3 hk3 hcs3 hfu3 => by
    obtain rfl := List.mem_singleton.1 he
    obtain rfl := List.mem_singleton.1 hc1
    obtain ⟨b, S', ev, res⟩ := ih ⟨up, at_, at_ + 1, x.kids.toNat, e, j⟩ x _ S3 Φ hx ho hpk hkn rfl hij hj hk3 I3 hcs3 (Nat.le_trans hup (x2.trans x3).le) hΦ (hN.mono (x2.trans x3) fun _ h => h) hfu3
    exact ⟨b, S', .bodyCat hx ho ev, res.lift .refl (hsem S3 x3 I3).symm rfl (Nat.le_refl _) fun _ => Nat.le_refl _⟩) (List.mem_singleton_self i)
  have hpl := pend_le (K := K) (u := q + 1) (es := [i]) (L := fun _ => [c]) (kR := fun _ _ => k0) (S := S2)
  simp only [List.map_cons, List.map_nil, List.sum_cons, List.sum_nil] at hpl
  obtain ⟨b, S', ev, res⟩ := hNx S2 c .refl Ip (List.mem_singleton_self c) hc (p4.trans hcs) (by first | omega | (dsimp only; omega))
  exact ⟨b, S', .takeCat hx hf ho hpu ev, res.lift x2 (by rw [hsem S2 .refl Ip, LF1_4 ho, hI.kont Ip x2 hup]) p4 (by first | omega | (dsimp only; omega)) fun S' => Nat.le_add_right _ _⟩
theorem sr_rep (hK : K.ok N) {x y : Nd} {js : F} {i j : Nat} {c : Caps} {Z : List Caps} {k k0 : Nat} (ho : x.op = 6) (ih : RndTgt K N x y js 0 i j c Z k0) (hk : k0 + 2 ≤ k) : NodeTgt K N x (.nd y js .nil) i j c Z k := by
  intro at_ e0 S up Φ hp hij hj hc hI hcs hup hΦ hN hfu
  obtain ⟨hx, hpk, _⟩ := hp.head
  have xT : Ext S S.tick := tick_ext
  have IT : Inv K N S.tick := hI.same rfl rfl rfl
  have hΦT := hΦ _ _ xT
  have hf : 0 < S.fuel := by omega
  have htf : S.tick.fuel = S.fuel - 1 := rfl
  have htw : S.tick.wk = S.wk + 1 := rfl
  generalize hpu : S.tick.push ⟨up, at_, 0, 0, 0, j⟩ = pr
  obtain ⟨u, S2⟩ := pr
  obtain ⟨xp, Ip, q, rfl, hf0⟩ := push_spec hpu IT hup
  obtain ⟨_, p2, p3, p4, _, _⟩ := SS.push_sz hpu
  have x2 : Ext S S2 := xT.trans xp
  have hΦ2 := hΦ _ _ x2
  have hcap : 0 = capK x 0 := by unfold capK; split <;> omega
  have hsem : ∀ S3, Ext S2 S3 → Inv K N S3 → K.kont S3.fs (q + 1) i c = (RLf x (K.kidsB at_) j 0 i c).findSome? (K.kont S3.fs up j) := fun S3 x3 I3 => by
    rw [SrE.kont_succ I3.ch (x3.get hf0) hx, if_neg (by omega), if_pos ho]
  have hNx := frame_ok (N := N) hK.ref hΦ (es := [i]) (L := fun _ => [c]) (kR := fun _ _ => k0) hf0 (fun e he c1 hc1 S3 x3 I3 hk3 hcs3 hfu3 => by
    obtain rfl := List.mem_singleton.1 he
    obtain rfl := List.mem_singleton.1 hc1
    obtain ⟨b, S', ev, res⟩ := ih ⟨up, at_, 0, 0, 0, j⟩ _ S3 Φ hp ho hcap rfl hij hj hk3 I3 hcs3 (Nat.le_trans hup (x2.trans x3).le) hΦ (hN.mono (x2.trans x3) fun _ h => h) hfu3
    exact ⟨b, S', .bodyRep hx ho ev, res.lift .refl (hsem S3 x3 I3).symm rfl (Nat.le_refl _) fun _ => Nat.le_refl _⟩) (List.mem_singleton_self i)
  have hpl := pend_le (K := K) (u := q + 1) (es := [i]) (L := fun _ => [c]) (kR := fun _ _ => k0) (S := S2)
  simp only [List.map_cons, List.map_nil, List.sum_cons, List.sum_nil] at hpl
  obtain ⟨b, S', ev, res⟩ := hNx S2 c .refl Ip (List.mem_singleton_self c) hc (p4.trans hcs) (by first | omega | (dsimp only; omega))
  have hfo : foAt K.re (at_ + 1) 1 = .nd y js .nil := by have h := foAt_eq hpk; rwa [show (F.nd y js .nil).num = 1 by simp [F.num]] at h
  exact ⟨b, S', .takeRep hx hf ho hpu ev, res.lift x2 (by
    rw [hsem S2 .refl Ip, LF1_6 ho, hI.kont Ip x2 hup]
    have : K.kidsB at_ = fun p e c => LF K.w (.nd y js .nil) false p e (emp (F.nd y js .nil).flat c) := by funext p e c; unfold SrE.kidsB; rw [hfo]
    rw [this]) p4 (by first | omega | (dsimp only; omega)) fun S' => Nat.le_add_right _ _⟩
end
end Go.HL.Kl.Mc
namespace Go.HL.Kl.Mc
open Go Go.HL Go.HL.Kl AskE
theorem sum_ones {α : Type} : ∀ (l : List α), (l.map fun _ => 0 + 1).sum = l.length
  | [] => rfl
  | a :: l => by
    have := sum_ones l
    simp only [List.map_cons, List.sum_cons, List.length_cons] at this ⊢; omega
section
variable {K : SrE} {N : Nat}
theorem Res.seq {S S1 S2 : SS} {b : Bool} {sem1 sem2 : Option Caps} {k1 k2 : Nat} {Φ : SS → Nat} (h : Res K N S S1 false sem1 k1 Φ) (h' : Res K N S1 S2 b sem2 k2 Φ) : Res K N S S2 b sem2 (k1 + k2) Φ := by
  obtain ⟨_, r2, r3⟩ := h.no rfl
  refine ⟨h'.inv, h.ext.trans h'.ext, fun hb => ?_, fun hb => ?_⟩
  · obtain ⟨r, q1, q2, q3, q4⟩ := h'.yes hb
    exact ⟨r, q1, q2, q3, by omega⟩
  · obtain ⟨q1, q2, q3⟩ := h'.no hb
    exact ⟨q1, q2.trans r2, by omega⟩
theorem Res.sem {S S' : SS} {b : Bool} {sem sem' : Option Caps} {k : Nat} {Φ : SS → Nat} (h : Res K N S S' b sem k Φ) (e : sem = sem') : Res K N S S' b sem' k Φ := e ▸ h
theorem sr_grp (hK : K.ok N) {x y : Nd} {js : F} {i j : Nat} {c : Caps} {Z L : List Caps} {k k0 : Nat} (ho : x.op = 7) (ih : NodeTgt K N y js i j (emp (F.nd y js .nil).flat c) L k0) (hz : ∀ d ∈ L, d.set (x.n.toNat - 1) ⟨i, j⟩ ∈ Z) (hk : k0 + L.length + 1 ≤ k) : NodeTgt K N x (.nd y js .nil) i j c Z k := by
  intro at_ e0 S up Φ hp hij hj hc hI hcs hup hΦ hN hfu
  obtain ⟨hx, hpk, _⟩ := hp.head
  have hgr := hK.grp x (List.mem_of_getElem? hx) ho
  obtain ⟨m, hm⟩ : ∃ m, x.n.toNat = m + 1 := ⟨x.n.toNat - 1, by omega⟩
  have hm1 : x.n.toNat - 1 = m := by omega
  have hf : 0 < S.fuel := by omega
  have htf : S.tick.fuel = S.fuel - 1 := rfl
  have htw : S.tick.wk = S.wk + 1 := rfl
  have x1 : Ext S ({ S.tick with cs := fgt (K.inn (at_ + 1) (K.bh at_)) S.cs } : SS) := Ext.same rfl rfl rfl
  have I1 : Inv K N ({ S.tick with cs := fgt (K.inn (at_ + 1) (K.bh at_)) S.cs } : SS) := hI.same rfl rfl rfl
  generalize hpu : ({ S.tick with cs := fgt (K.inn (at_ + 1) (K.bh at_)) S.cs } : SS).push ⟨up, at_, 0, 0, i, j⟩ = pr
  obtain ⟨u, S2⟩ := pr
  obtain ⟨xp, Ip, q, rfl, hf0⟩ := push_spec hpu I1 hup
  obtain ⟨_, p2, p3, p4, _, _⟩ := SS.push_sz hpu
  have p2 : S2.wk = S.wk + 1 := p2
  have p3 : S2.fuel = S.fuel - 1 := p3
  have x2 : Ext S S2 := x1.trans xp
  have hΦ2 := hΦ _ _ x2
  have p4 : S2.cs = fgt (K.inn (at_ + 1) (K.bh at_)) S.cs := p4
  have hcs2 : S2.cs = noS :: emp (F.nd y js .nil).flat c := by rw [p4, hcs]; exact hK.emp hp c
  have hce := hc.emp (F.nd y js .nil).flat
  have hsem : ∀ S3, Ext S2 S3 → Inv K N S3 → ∀ e c1, K.kont S3.fs (q + 1) e c1 = K.kont S3.fs up e (c1.set m ⟨i, j⟩) := fun S3 x3 I3 e c1 => by
    rw [SrE.kont_succ I3.ch (x3.get hf0) hx, if_neg (by omega), if_neg (by omega), hm1]
  have hNx : NextOK K N S2 (q + 1) j L (fun S => Φ S + pend K (q + 1) [j] (fun _ => L) (fun _ _ => 0) S) := frame_ok (N := N) hK.ref hΦ (es := [j]) (L := fun _ => L) (kR := fun _ _ => 0) hf0 (fun e he c1 hc1 S3 x3 I3 hk3 hcs3 hfu3 => by
    obtain rfl := List.mem_singleton.1 he
    have hS4 : S3.cs.set x.n.toNat ⟨i, e⟩ = noS :: c1.set m ⟨i, e⟩ := by rw [hcs3, hm]; rfl
    have x4 : Ext S3 ({ S3 with cs := S3.cs.set x.n.toNat ⟨i, e⟩ } : SS) := Ext.same rfl rfl rfl
    have hΦ4 := hΦ _ _ x4
    have hz1 := hz c1 hc1
    rw [hm1] at hz1
    obtain ⟨b, S', ev, res⟩ := hN ({ S3 with cs := S3.cs.set x.n.toNat ⟨i, e⟩ } : SS) (c1.set m ⟨i, e⟩) ((x2.trans x3).trans x4) (I3.same rfl rfl rfl) hz1 (hk3.set hij hj m) hS4 (by show _ ≤ S3.fuel; omega)
    have hwk4 : ({ S3 with cs := S3.cs.set x.n.toNat ⟨i, e⟩ } : SS).wk = S3.wk := rfl
    cases b with
    | true =>
      refine ⟨true, S', .bodyGrpY hx (by omega) (by omega) ev, res.inv, x4.trans res.ext, fun _ => ?_, fun h => (by cases h)⟩
      obtain ⟨r, r1, r2, r3, r4⟩ := res.yes rfl
      exact ⟨r, by rw [hsem S3 x3 I3]; exact r1, r2, r3, by omega⟩
    | false =>
      obtain ⟨r1, r2, r3⟩ := res.no rfl
      refine ⟨false, _, .bodyGrpN hx (by omega) (by omega) ev, res.inv.same rfl rfl rfl, x4.trans (res.ext.trans (Ext.same rfl rfl rfl)), fun h => (by cases h), fun _ => ⟨by rw [hsem S3 x3 I3]; exact r1, ?_, ?_⟩⟩
      · show S'.cs.set x.n.toNat (S3.cs.getD x.n.toNat noS) = S3.cs
        rw [r2]
        show (S3.cs.set x.n.toNat ⟨i, e⟩).set x.n.toNat _ = _
        rw [List.set_set, hcs3, hm]
        simp only [List.getD_cons_succ, List.set_cons_succ]
        congr 1
        have hml : m < c1.length := by rw [hk3.len]; omega
        apply List.ext_getElem?
        intro n
        by_cases en : m = n
        · subst en
          rw [List.getElem?_set_self hml, List.getD_eq_getElem?_getD, List.getElem?_eq_getElem hml]; rfl
        · rw [List.getElem?_set_ne en]
      · have h5 := hΦ S' _ (Ext.same (S1 := { S' with cs := S'.cs.set x.n.toNat (S3.cs.getD x.n.toNat noS) }) rfl rfl rfl)
        show S'.wk + _ ≤ _
        omega) (List.mem_singleton_self j)
  have hpl := pend_le (K := K) (u := q + 1) (es := [j]) (L := fun _ => L) (kR := fun _ _ => 0) (S := S2)
  simp only [List.map_cons, List.map_nil, List.sum_cons, List.sum_nil] at hpl
  have hso := sum_ones L
  rw [hso] at hpl
  have hq := (List.getElem?_eq_some_iff.1 hf0).1
  have hA : Anti (fun S => Φ S + pend K (q + 1) [j] (fun _ => L) (fun _ _ => 0) S) := fun S S' h => Nat.add_le_add (hΦ _ _ h) (pend_anti _ _ h)
  obtain ⟨b, S', ev, res⟩ := ih (at_ + 1) _ S2 (q + 1) _ hpk hij hj hce Ip hcs2 (by omega) hA hNx (by omega)
  have hse : (LF1 K.w y js i j (emp (F.nd y js .nil).flat c)).findSome? (K.kont S2.fs (q + 1) j) = (LF1 K.w x (.nd y js .nil) i j c).findSome? (K.kont S.fs up j) := by
    rw [LF1_7 ho, fs_map, LF_one, if_pos hij, hm1, ← hI.kont Ip x2 hup]
    congr 1
    funext d
    exact hsem S2 .refl Ip j d
  cases b with
  | true =>
    refine ⟨true, S', .takeGrpY hx hf ho hpu ev, res.inv, x2.trans res.ext, fun _ => ?_, fun h => (by cases h)⟩
    obtain ⟨r, r1, r2, r3, r4⟩ := res.yes rfl
    exact ⟨r, by rw [← hse]; exact r1, r2, r3, by omega⟩
  | false =>
    obtain ⟨r1, r2, r3⟩ := res.no rfl
    refine ⟨false, _, .takeGrpN hx hf ho hpu ev, res.inv.same rfl rfl rfl, x2.trans (res.ext.trans (Ext.same rfl rfl rfl)), fun h => (by cases h), fun _ => ⟨by rw [← hse]; exact r1, ?_, ?_⟩⟩
    · show rst _ _ S'.cs = S.cs
      rw [r2, p4, hcs]
      exact hK.rst hp hc.len
    · have h5 := hΦ S' _ (Ext.same (S1 := { S' with cs := rst (K.inn (at_ + 1) (K.bh at_)) (emW (K.inn (at_ + 1) (K.bh at_)) S.cs) S'.cs }) rfl rfl rfl)
      show S'.wk + _ ≤ _
      omega
theorem sr_altC {x : Nd} {ks : F} {i j : Nat} {c : Caps} {Z : List Caps} {k k0 : Nat} (ho : x.op = 5) (ih : AltTgt K N ks i j c Z k0) (hk : k0 + 1 ≤ k) : NodeTgt K N x ks i j c Z k := by
  intro at_ e0 S up Φ hp hij hj hc hI hcs hup hΦ hN hfu
  obtain ⟨hx, hpk, _⟩ := hp.head
  have xT : Ext S S.tick := tick_ext
  have IT : Inv K N S.tick := hI.same rfl rfl rfl
  have hΦT := hΦ _ _ xT
  have hf : 0 < S.fuel := by omega
  have htf : S.tick.fuel = S.fuel - 1 := rfl
  have htw : S.tick.wk = S.wk + 1 := rfl
  have hkn : x.kids.toNat = ks.num := by have h : (ks.num : Int) = x.kids := hp.wf.2.1; omega
  obtain ⟨b, S', ev, res⟩ := ih (at_ + 1) _ S.tick up Φ hpk hij hj hc IT hcs hup hΦ (hN.mono xT fun _ h => h) (by omega)
  exact ⟨b, S', .takeAlt hx hf ho (by rw [hkn]; exact ev), res.lift xT (by rw [LF1_5 ho]; rfl) rfl (by omega) fun _ => Nat.le_refl _⟩
theorem sr_altNil {i j : Nat} {c : Caps} {Z : List Caps} {k : Nat} : AltTgt K N .nil i j c Z k := by
  intro kid e0 S up Φ hp hij hj hc hI hcs hup hΦ hN hfu
  exact ⟨false, S, .altNil, hI, .refl, fun h => (by cases h), fun _ => ⟨by rw [LF_nilT]; rfl, rfl, by omega⟩⟩
theorem sr_altCons {y : Nd} {js r : F} {i j : Nat} {c : Caps} {Z Z1 Z2 : List Caps} {k k1 k2 : Nat} (h1 : NodeTgt K N y js i j c Z1 k1) (h2 : AltTgt K N r i j c Z2 k2) (hz1 : ∀ d ∈ Z1, d ∈ Z) (hz2 : ∀ d ∈ Z2, d ∈ Z) (hk : k1 + k2 ≤ k) : AltTgt K N (.nd y js r) i j c Z k := by
  intro kid e0 S up Φ hp hij hj hc hI hcs hup hΦ hN hfu
  obtain ⟨hy, hpk, hpr⟩ := hp.head
  have hnum : (F.nd y js r).num = r.num + 1 := by simp only [F.num]; try omega
  obtain ⟨b, S1, ev, res⟩ := h1 kid _ S up Φ hp.one hij hj hc hI hcs hup hΦ (hN.mono .refl hz1) (by omega)
  rw [hnum]
  cases b with
  | true =>
    refine ⟨true, S1, .altYes ev, res.inv, res.ext, fun _ => ?_, fun h => (by cases h)⟩
    obtain ⟨r', r1, r2, r3, r4⟩ := res.yes rfl
    exact ⟨r', by rw [LF_alt, List.findSome?_append, r1]; rfl, r2, r3, by omega⟩
  | false =>
    obtain ⟨r1, r2, r3⟩ := res.no rfl
    have hgr := ev.grow
    obtain ⟨b, S', ev2, res2⟩ := h2 _ _ S1 up Φ hpr hij hj hc res.inv (r2.trans hcs) (Nat.le_trans hup res.ext.le) hΦ (hN.mono res.ext hz2) (by omega)
    refine ⟨b, S', .altNo ev (by rw [SrE.bh_eq hp.one]; exact ev2), ((res.seq res2).sem (sem' := (LF K.w (.nd y js r) true i j c).findSome? (K.kont S.fs up j)) ?_).lift .refl rfl rfl (by omega) fun _ => Nat.le_refl _⟩
    rw [LF_alt, List.findSome?_append, r1, hI.kont res.inv res.ext hup]; rfl
theorem sr_rowNil {i j : Nat} {c : Caps} {Z : List Caps} {k : Nat} (hz : i = j → c ∈ Z) : RowTgt K N .nil i j c Z k := by
  intro f x e0 S Φ hx ho hp hl ht hij hj hc hI hcs hup hΦ hN hfu
  have hl0 : f.left = 0 := hl
  by_cases he : i = j
  · obtain ⟨b, S', ev, res⟩ := hN S c .refl hI (hz he) hc hcs (by omega)
    exact ⟨b, S', .rowZ hl0 (by omega) (by rw [he]; exact ev), res.lift .refl (by rw [LF_nilF, if_pos he, fs_one]) rfl (by omega) fun _ => Nat.le_refl _⟩
  · exact ⟨false, S, .rowZN hl0 (by omega), hI, .refl, fun h => (by cases h), fun _ => ⟨by rw [LF_nilF, if_neg he]; rfl, rfl, by omega⟩⟩
theorem rowL_ok {f : Frm} {y : Nd} {js : F} {e1 i : Nat} {c : Caps} {S0 : SS} {u : Nat} {Φ : SS → Nat} (hΦ : Anti Φ) (hp : Part K.re (.nd y js .nil) f.kid e1) (hl1 : f.left ≠ 1) {es : List Nat} {L : Nat → List Caps} {kN : Nat → Nat} (h1 : ∀ e, e ∈ es → NodeTgt K N y js i e c (L e) (kN e))
    (hb : ∀ e ∈ es, i ≤ e ∧ e ≤ K.w.length) (hN : ∀ e ∈ es, NextOK K N S0 u e (L e) Φ) (hc : CapOk K N c) : ∀ (l : List Nat), (∀ e ∈ l, e ∈ es) → ∀ S, Ext S0 S → Inv K N S → S.cs = noS :: c → u ≤ S.fs.length → (l.map kN).sum + Φ S ≤ S.fuel →
    ∃ b S', Ev K S (.rowL f u i l) b S' ∧ Res K N S S' b (l.findSome? fun e => (LF1 K.w y js i e c).findSome? (K.kont S.fs u e)) (l.map kN).sum Φ
  | [], _, S, hx, hI, hcs, hu, hfu => ⟨false, S, .rowLNil, hI, .refl, fun h => (by cases h), fun _ => ⟨rfl, rfl, by simp⟩⟩
  | e :: l, hm, S, hx, hI, hcs, hu, hfu => by
    have he := hm e List.mem_cons_self
    obtain ⟨b1, b2⟩ := hb e he
    simp only [List.map_cons, List.sum_cons] at hfu ⊢
    obtain ⟨b, S1, ev, res⟩ := h1 e he f.kid _ S u Φ hp b1 b2 hc hI hcs hu hΦ ((hN e he).mono hx fun _ h => h) (by omega)
    cases b with
    | true =>
      refine ⟨true, S1, .rowLYes ev, res.inv, res.ext, fun _ => ?_, fun h => (by cases h)⟩
      obtain ⟨r', r1, r2, r3, r4⟩ := res.yes rfl
      exact ⟨r', by rw [List.findSome?_cons, r1], r2, r3, by omega⟩
    | false =>
      obtain ⟨r1, r2, r3⟩ := res.no rfl
      have hgr := ev.grow
      obtain ⟨b, S', ev2, res2⟩ := rowL_ok hΦ hp hl1 h1 hb hN hc l (fun e h => hm e (List.mem_cons_of_mem _ h)) S1 (hx.trans res.ext) res.inv (r2.trans hcs) (Nat.le_trans hu res.ext.le) (by omega)
      refine ⟨b, S', .rowLNo hl1 ev ev2, (res.seq res2).sem ?_⟩
      rw [List.findSome?_cons, r1, hI.kont res.inv res.ext hu]
theorem sr_rowCons (hK : K.ok N) {y : Nd} {js r : F} {i j : Nat} {c : Caps} {Z : List Caps} {k : Nat} {es : List Nat} {L : Nat → List Caps} {kN : Nat → Nat} {R : Nat → Caps → List Caps} {kR : Nat → Caps → Nat} (hes : es = if r.num = 0 then [j] else ends i j)
    (h1 : ∀ e, e ∈ es → NodeTgt K N y js i e c (L e) (kN e)) (h2 : ∀ e, e ∈ es → ∀ c1, c1 ∈ L e → RowTgt K N r e j c1 (R e c1) (kR e c1)) (hz : ∀ e, e ∈ es → ∀ c1, c1 ∈ L e → ∀ d, d ∈ R e c1 → d ∈ Z) (hk : sumW es L kN kR ≤ k) : RowTgt K N (.nd y js r) i j c Z k := by
  intro f x e0 S Φ hx ho hp hl ht hij hj hc hI hcs hup hΦ hN hfu
  obtain ⟨hy, hpk, hpr⟩ := hp.head
  have hnum : (F.nd y js r).num = r.num + 1 := by simp only [F.num]; try omega
  have hbh := SrE.bh_eq hp.one
  have hin : ∀ e ∈ es, i ≤ e ∧ e ≤ j := fun e he => by
    rw [hes] at he
    split at he
    · obtain rfl := List.mem_singleton.1 he; omega
    · exact mem_ends.1 he
  generalize hpu : S.push { f with kid := K.bh f.kid, left := r.num, fr := 0 } = pr
  obtain ⟨u, S2⟩ := pr
  obtain ⟨x2, Ip, q, rfl, hf0⟩ := push_spec hpu hI hup
  obtain ⟨_, p2, p3, p4, _, _⟩ := SS.push_sz hpu
  have hΦ2 := hΦ _ _ x2
  have hfo : foAt K.re (K.bh f.kid) r.num = r := by rw [hbh]; exact foAt_eq hpr
  have hsem : ∀ S3, Ext S2 S3 → Inv K N S3 → ∀ e c1, K.kont S3.fs (q + 1) e c1 = (LF K.w r false e j c1).findSome? (K.kont S3.fs f.up j) := fun S3 x3 I3 e c1 => by
    rw [SrE.kont_succ I3.ch (x3.get hf0) hx, if_pos ho]
    dsimp only
    rw [hfo, ht]
  have hNx : ∀ e, e ∈ es → NextOK K N S2 (q + 1) e (L e) (fun S => Φ S + pend K (q + 1) es L kR S) := fun e he => frame_ok (N := N) hK.ref hΦ hf0 (fun e he c1 hc1 S3 x3 I3 hk3 hcs3 hfu3 => by
    obtain ⟨i1, i2⟩ := hin e he
    obtain ⟨b, S', ev, res⟩ := h2 e he c1 hc1 { f with kid := K.bh f.kid, left := r.num, fr := 0 } x _ S3 Φ hx ho (by rw [hbh]; exact hpr) rfl ht i2 hj hk3 I3 hcs3 (Nat.le_trans hup (x2.trans x3).le) hΦ (hN.mono (x2.trans x3) (hz e he c1 hc1)) hfu3
    exact ⟨b, S', .bodyCat hx ho ev, res.lift .refl (hsem S3 x3 I3 e c1).symm rfl (Nat.le_refl _) fun _ => Nat.le_refl _⟩) he
  have hA : Anti (fun S => Φ S + pend K (q + 1) es L kR S) := fun S S' h => Nat.add_le_add (hΦ _ _ h) (pend_anti _ _ h)
  have hps := pend_sumW (K := K) (u := q + 1) (kN := kN) (L := L) (kR := kR) (S := S2) (es := es)
  have hq := (List.getElem?_eq_some_iff.1 hf0).1
  have hall : (LF K.w (.nd y js r) false i j c).findSome? (K.kont S.fs f.up j) = (ends i j).findSome? fun e => (LF1 K.w y js i e c).findSome? (K.kont S2.fs (q + 1) e) := by
    rw [LF_cat, fs_flat]
    congr 1
    funext e
    rw [fs_flat]
    congr 1
    funext c1
    rw [hsem S2 .refl Ip, hI.kont Ip x2 hup]
  have hcs2 : S2.cs = noS :: c := p4.trans hcs
  by_cases hr : r.num = 0
  · rw [if_pos hr] at hes
    subst hes
    have hr0 : r = .nil := F.num_nil hr
    simp only [List.map_cons, List.map_nil, List.sum_cons, List.sum_nil] at hps
    obtain ⟨b, S', ev, res⟩ := h1 j (List.mem_singleton_self j) f.kid _ S2 (q + 1) _ hp.one hij hj hc Ip hcs2 (by omega) hA (hNx j (List.mem_singleton_self j)) (by omega)
    have hends : ends i j = j :: down i (j - i) := by unfold ends; rw [show j + 1 - i = (j - i) + 1 by omega, down, show i + (j - i) = j by omega]
    have hrest : ∀ e, e ≠ j → (LF1 K.w y js i e c).findSome? (K.kont S2.fs (q + 1) e) = none := fun e he => by
      rw [List.findSome?_eq_none_iff]
      intro c1 _
      rw [hsem S2 .refl Ip, hr0, LF_nilF, if_neg he]; rfl
    have hrl : (down i (j - i)).findSome? (fun e => (LF1 K.w y js i e c).findSome? (K.kont S2.fs (q + 1) e)) = none := by
      rw [List.findSome?_eq_none_iff]
      intro e he
      have := mem_down.1 he
      exact hrest e (by omega)
    have hse : (LF1 K.w y js i j c).findSome? (K.kont S2.fs (q + 1) j) = (LF K.w (.nd y js r) false i j c).findSome? (K.kont S.fs f.up j) := by
      rw [hall, hends, List.findSome?_cons, hrl]
      split
      · assumption
      · assumption
    have res' := res.lift (S := S) (sem := (LF K.w (.nd y js r) false i j c).findSome? (K.kont S.fs f.up j)) (k := k) (Φ := Φ) x2 hse p4 (by omega) fun S' => Nat.le_add_right _ _
    have hl1 : f.left = 1 := by omega
    have hlp : f.left = r.num + 1 := by omega
    cases b with
    | true => exact ⟨true, S', .rowS hlp hpu (by rw [ht, hends]; exact .rowLYes ev), res'⟩
    | false => exact ⟨false, S', .rowS hlp hpu (by rw [ht, hends]; exact .rowLLast hl1 ev), res'⟩
  · rw [if_neg hr] at hes
    subst hes
    obtain ⟨b, S', ev, res⟩ := rowL_ok hA hp.one (by omega : f.left ≠ 1) h1 (fun e he => ⟨(hin e he).1, by have := (hin e he).2; omega⟩) hNx hc (ends i j) (fun _ h => h) S2 .refl Ip hcs2 (by omega) (by omega)
    exact ⟨b, S', .rowS (by omega : f.left = r.num + 1) hpu (by rw [ht]; exact ev), res.lift x2 hall.symm p4 (by omega) fun S' => Nat.le_add_right _ _⟩
end
end Go.HL.Kl.Mc
