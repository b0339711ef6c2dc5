/- The tally's account of all spans of a text. Conditions: none. -/
import Derived.Test.YtloepfcndglmmaaDoorVZB7Z
import Derived.Test.YtloepfcndglmmaaDoorVZB3Z
import Derived.Test.YtloepfcndglmmaaDoorHTZ
import Derived.Test.YtloepfcndglmmaaDoorVZN1Z
import Derived.Test.YtloepfcndglmmaaDoorMK3Z
import Derived.Test.YtloepfcndglmmaaDoorHM2Z
namespace Go.HL.Kl.Mc
open Go Go.HL Go.HL.Kl AskE
def LAcc (n : Nat) (x : Nd) (ks : F) (c : Caps) (ps : List (Nat × Nat)) (T : Int) : Prop := ∃ cost : Nat → Nat → Nat, (∀ p ∈ ps, ∃ Z, Ct n (.node x ks p.1 p.2 c) Z (cost p.1 p.2)) ∧ (((ps.map fun p => cost p.1 p.2).sum : Nat) : Int) ≤ 3 * T
theorem LAcc.nil {n : Nat} {x : Nd} {ks : F} {c : Caps} {T : Int} (h : 0 ≤ T) : LAcc n x ks c [] T := ⟨fun _ _ => 0, fun p h => (by cases h), by simp; omega⟩
theorem LAcc.snoc {n : Nat} {x : Nd} {ks : F} {c : Caps} {ps : List (Nat × Nat)} {T t : Int} (h : LAcc n x ks c ps T) {i j : Nat} {Z : List Caps} (hc : NodeC' n x ks i j c Z t) : LAcc n x ks c (ps ++ [(i, j)]) (T + t) := by
  obtain ⟨cost, h1, h2⟩ := h
  obtain ⟨k, c1, c2⟩ := hc
  by_cases hm : (i, j) ∈ ps ∧ cost i j ≤ k
  · refine ⟨cost, fun p hp => ?_, ?_⟩
    · rcases List.mem_append.1 hp with hp | hp
      · exact h1 p hp
      · obtain rfl := List.mem_singleton.1 hp; exact h1 _ hm.1
    · rw [List.map_append, List.sum_append]
      simp only [List.map_cons, List.map_nil, List.sum_cons, List.sum_nil]
      omega
  · refine ⟨fun a b => if a = i ∧ b = j then k else cost a b, fun p hp => ?_, ?_⟩
    · by_cases e : p.1 = i ∧ p.2 = j
      · refine ⟨Z, ?_⟩
        simp only [if_pos e]
        rw [e.1, e.2]; exact c1
      · simp only [if_neg e]
        exact h1 p ((List.mem_append.1 hp).resolve_right fun h => e (by obtain rfl := List.mem_singleton.1 h; exact ⟨rfl, rfl⟩))
    · rw [List.map_append, List.sum_append]
      simp only [List.map_cons, List.map_nil, List.sum_cons, List.sum_nil, and_self, if_true]
      have hs : (ps.map fun p => if p.1 = i ∧ p.2 = j then k else cost p.1 p.2).sum ≤ (ps.map fun p => cost p.1 p.2).sum := sum_le fun p hp => by
        by_cases e : p.1 = i ∧ p.2 = j
        · rw [if_pos e, e.1, e.2]
          have : ¬ cost i j ≤ k := fun h => hm ⟨by rw [← e.1, ← e.2]; exact hp, h⟩
          omega
        · rw [if_neg e]; exact Nat.le_refl _
      omega
theorem LAcc.mono {n : Nat} {x : Nd} {ks : F} {c : Caps} {ps : List (Nat × Nat)} {T T' : Int} (h : LAcc n x ks c ps T) (ht : T ≤ T') : LAcc n x ks c ps T' := by
  obtain ⟨cost, h1, h2⟩ := h
  exact ⟨cost, h1, by omega⟩
def rowP (n i : Nat) (es : List Nat) : List (Nat × Nat) := es.map fun j => (i, j)
def prs (n p : Nat) : List (Nat × Nat) := (List.range p).flatMap fun i => rowP n i (ends i n)
theorem prs_succ {n p : Nat} : prs n (p + 1) = prs n p ++ rowP n p (ends p n) := by simp [prs, List.range_succ, List.flatMap_append]
theorem rowP_snoc {n p j : Nat} (h : j ≤ n) : rowP n p (ends j n) = rowP n p (ends (j + 1) n) ++ [(p, j)] := by unfold rowP; rw [ends_snoc h, List.map_append]; rfl
theorem rowP_none {n p : Nat} : rowP n p (ends (n + 1) n) = [] := by unfold rowP; rw [ends_none]; rfl
theorem mem_prs {n p i j : Nat} (h1 : i < p) (h2 : i ≤ j) (h3 : j ≤ n) : (i, j) ∈ prs n p := by
  unfold prs
  rw [List.mem_flatMap]
  exact ⟨i, List.mem_range.2 h1, List.mem_map.2 ⟨j, mem_ends.2 ⟨h2, h3⟩, rfl⟩⟩
def BehU (re : List Nd) (bl : List Nat) (a b : Nat) : Prop := ∀ k y js r e, a ≤ k → k < b → Part re (.nd y js r) k e → bl[k]? = some (k + 1 + js.size)
theorem BehU.nil {re : List Nd} {bl : List Nat} {a : Nat} : BehU re bl a a := fun k _ _ _ _ h1 h2 => by omega
theorem BehU.cat {re : List Nd} {bl bl' : List Nat} {a b c : Nat} (h : BehU re bl a b) (hb : ∀ k, k < b → bl'[k]? = bl[k]?) (h' : BehU re bl' b c) : BehU re bl' a c := fun k y js r e h1 h2 hp => by
  by_cases hk : k < b
  · rw [hb k hk]; exact h k y js r e h1 hk hp
  · exact h' k y js r e (by omega) h2 hp
theorem BehU.top {re : List Nd} {bl : List Nat} {x : Nd} {ks : F} {at_ e : Nat} (hp : Part re (.nd x ks .nil) at_ e) (h : BehU re bl (at_ + 1) e) (hl : at_ < bl.length) (he : e = at_ + 1 + ks.size) : BehU re (bl.set at_ e) at_ e := fun k y js r e' h1 h2 hp' => by
  by_cases hk : k = at_
  · subst hk
    have hu : js = ks := by
      obtain ⟨h3, _, _⟩ := hp.head
      obtain ⟨h4, _, _⟩ := hp'.head
      rw [h3] at h4
      cases h4
      exact hp'.uniq hp
    rw [List.getElem?_set_self hl, hu, he]
  · rw [List.getElem?_set_ne (by omega)]
    exact h k y js r e' (by omega) h2 hp'
def rsum (cost : Nat → Nat → Nat) (n : Nat) : Nat → Nat
  | 0 => 0
  | m + 1 => ((ends (n - m) n).map (cost (n - m))).sum + rsum cost n m
theorem rsum_prs {cost : Nat → Nat → Nat} {n : Nat} : ∀ m, m ≤ n + 1 → ((prs n (n + 1 - m)).map fun p => cost p.1 p.2).sum + rsum cost n m = ((prs n (n + 1)).map fun p => cost p.1 p.2).sum
  | 0, _ => by simp [rsum]
  | m + 1, hm => by
    have ih := rsum_prs (cost := cost) (n := n) m (by omega)
    have e : n + 1 - m = (n - m) + 1 := by omega
    rw [e, prs_succ, List.map_append, List.sum_append] at ih
    have e2 : ((rowP n (n - m) (ends (n - m) n)).map fun p => cost p.1 p.2).sum = ((ends (n - m) n).map (cost (n - m))).sum := by
      unfold rowP; rw [List.map_map]; rfl
    rw [e2] at ih
    rw [rsum, show n + 1 - (m + 1) = n - m by omega]
    omega
theorem rsum_le {cost : Nat → Nat → Nat} {n m : Nat} (h : m ≤ n + 1) : rsum cost n m ≤ ((prs n (n + 1)).map fun p => cost p.1 p.2).sum := by
  have := rsum_prs (cost := cost) m h; omega
end Go.HL.Kl.Mc
namespace Go.Proofs.YtloepfcndglmmaaDoor
open Go Go.HL Go.Proofs Go.HL.Kl Go.HL.Kl.Mc Go.HL.Kl.Mc.AskE
set_option maxHeartbeats 1000000 in
theorem node_clo (K : AskE) (hK : K.ok) (x : Nd) (ks : F) (i i1 p q : Nat) (es : List Me) (c : Nat) (hp : Part K.re (.nd x ks .nil) i i1) (hpq : p ≤ q) (hq : q ≤ K.tx.length) (hes : MapOk K.tx K.re es) (ihN : x.op = 7 → ∀ y js, ks = .nd y js .nil → NodeK Tryd.prog K y js) (h4 : x.op = 4 → RestK Tryd.prog K ⟨i, (i + 1 : Nat), p, q⟩) (h5 : x.op = 5 → RestK Tryd.prog K ⟨i, -1, p, q⟩) (h6 : x.op = 6 → RestK Tryd.prog K ⟨i, (0 : Nat), p, q⟩) : HL.Fn Tryd.prog 92 [.int .i64 i, .int .i64 p, .int .i64 q, pt K.bRe, pt K.bTx, pt K.bA] (fun W => Env W K [K.bM]) [(K.bM, mpO es c)] (AnsK K (der1 K.tx x ks p q)) := by
  refine fn_of Tryd.func92 rfl rfl rfl fun w0 hw => ?_
  have hsl := hw.d1.sl
  have hst := hw.d2.sl
  have hse := hw.d3.sl
  have htl := hK.tx
  have hrl := hK.len
  obtain rfl : i1 = i + 1 + ks.size := by have := hp.len; simp only [F.size] at this; omega
  obtain ⟨hx, hpk, _⟩ := hp.head
  have hilt := (List.getElem?_eq_some_iff.1 hx).1
  have hxm := List.mem_of_getElem? hx
  have hox := hK.rng x hxm
  have hx8 := hK.no8 x hxm
  have hok : ndOk x = true := hp.wf.1
  have hop : 1 ≤ x.op ∧ x.op ≤ 8 := (flds_iff.1 (by simp only [ndOk, Bool.and_eq_true] at hok; exact hok.1)).1
  have hpkl := hpk.le
  have hei := hK.ends.2 i x ks .nil _ (Nat.zero_le _) hp
  have hell := hK.ends.1
  rw [hell] at hse
  refine cR fun _ hK1 => ?_; refine oA (oZ hK1 (c_seq fun _ hK2 => ?_)); refine cR fun _ hK3 => ?_; refine oS (s_ld rfl ((RdPK.old hw.p1 hw.n1).cel (j := 0) rfl rfl)) ?_; refine oM ?_; refine oS (s_idx rfl rfl hsl (by omega)) ?_; refine oS (s_ldB rfl ((RdK.old hw.d1 hw.a1).lds i hx rfl) (by rfl)) ?_; refine o_alloc (l := En zN) (by rw [En_zero]; rfl) rfl fun b10 => ?_; refine o_stW rfl rfl upA lnA lnA onA ?_; refine oZ hK3 (cR fun _ hK4 => ?_); refine oS sF ?_; refine oS sL (oZ hK4 (c_block (cR fun _ hK5 => ?_)))
  by_cases o1 : x.op = 1
  ·refine oS (eqT (h := o1)) ?_; refine oA (oZ hK5 ?_); refine cT (c_seq fun _ hK6 => ?_); refine c_drawE ([(b10, .cells (En x).toArray 80 (0, 0))]) (fun i => false) ?_; refine eK 0 rfl sM ?_; refine eK 1 rfl sM ?_; refine eK 2 rfl sD ?_
   by_cases hqp : (q : Int) = (p : Int) + 1
   ·obtain ⟨b, hb⟩ : ∃ b, K.tx[p]? = some b := gE
    refine eK 3 rfl eqT ?_; refine eK 4 rfl sM ?_; refine eG 5 rfl sF ?_; refine eG 6 rfl (s_ldB rfl (RdPK.cels (RdPK.own' (cs := Ec x.set) meA nd_set)) (Ec_lenM _)) ?_; refine eG 7 rfl (s_ld rfl ((RdPK.old hw.p2 hw.n2).cel (j := 0) rfl rfl)) ?_; refine eG 8 rfl sM ?_; refine eG 9 rfl (s_idx rfl rfl hst (by omega)) ?_; refine eG 10 rfl (s_ld rfl ((RdK.old hw.d2 hw.a2).ld p 0 hb rfl (by decide) (by omega))) ?_; refine eO 11 rfl ?_; refine oY ?_; refine o_callP (has_fn x.set b.toNat b.toNat_lt) rfl rfl rfl (fun _ _ => trivial) (fun v30 hv30 => ?_); subst hv30
    refine oX ?_; refine eK 12 rfl sT ?_; refine eK 13 rfl sA (eZ hK6 (c_ret ?_)); refine x_block_ret (x_then_ret (?_))
    refine x_sub (Sub.refl _) (H' := [(K.bM, mpO es c)]) hzB ?_; exact xR rfl rfl (⟨es, c, congrArg Value.bool (dQ_b (by rw [der1_1 o1]; exact ⟨fun h => ⟨by omega, b, hb, h⟩, fun ⟨_, b2, hb2, h⟩ => by rw [hb] at hb2; cases hb2; exact h⟩)).symm, rfl, hes⟩)
   ·refine eK 3 rfl eqF ?_; refine eK 4 rfl sM ?_; refine eS 5 rfl (eS 6 rfl (eS 7 rfl (eS 8 rfl (eS 9 rfl (eS 10 rfl (eO 11 rfl ?_)))))); refine oN (oX ?_); refine eK 12 rfl sP ?_; refine eK 13 rfl sA (eZ hK6 (c_ret ?_)); refine x_block_ret (x_then_ret (?_))
    refine x_sub (Sub.refl _) (H' := [(K.bM, mpO es c)]) hzB ?_; exact xR rfl rfl (⟨es, c, congrArg Value.bool (dQ_b (by rw [der1_1 o1]; exact ⟨fun h => (by cases h), fun h => absurd h.1 (by omega)⟩)).symm, rfl, hes⟩)
  ·refine oS (eqF (h := o1)) ?_; refine oA (oZ hK5 ?_); refine cF (cR fun _ hK7 => ?_)
   by_cases o2 : x.op = 2
   ·refine oS (eqT (h := o2)) ?_; refine oA (oZ hK7 ?_); refine cT (cR fun _ hK8 => ?_); refine oM ?_
    by_cases hp0 : (p : Int) = 0
    ·refine oS eqT (oM ?_); refine oY (oM ?_); refine oY ?_
     by_cases hq0 : (q : Int) = 0
     ·refine oS eqT ?_; refine oS sT (oA (oZ hK8 (c_ret ?_))); refine x_block_ret (x_then_ret (?_))
      refine x_sub (Sub.refl _) (H' := [(K.bM, mpO es c)]) hzB ?_; exact xR rfl rfl (⟨es, c, congrArg Value.bool (dQ_b (by rw [der1_2 o2]; exact ⟨fun _ => by omega, fun _ => rfl⟩)).symm, rfl, hes⟩)
     ·refine oS eqF ?_; refine oS sT (oA (oZ hK8 (c_ret ?_))); refine x_block_ret (x_then_ret (?_))
      refine x_sub (Sub.refl _) (H' := [(K.bM, mpO es c)]) hzB ?_; exact xR rfl rfl (⟨es, c, congrArg Value.bool (dQ_b (by rw [der1_2 o2]; exact ⟨fun h => (by cases h), fun h => absurd h (by omega)⟩)).symm, rfl, hes⟩)
    ·refine oS eqF (oM ?_); refine oN ?_; refine oN ?_; refine oS sP (oA (oZ hK8 (c_ret ?_))); refine x_block_ret (x_then_ret (?_))
     refine x_sub (Sub.refl _) (H' := [(K.bM, mpO es c)]) hzB ?_; exact xR rfl rfl (⟨es, c, congrArg Value.bool (dQ_b (by rw [der1_2 o2]; exact ⟨fun h => (by cases h), fun h => absurd h (by omega)⟩)).symm, rfl, hes⟩)
   ·refine oS (eqF (h := o2)) ?_; refine oA (oZ hK7 ?_); refine cF (cR fun _ hK9 => ?_)
    by_cases o3 : x.op = 3
    ·refine oS (eqT (h := o3)) ?_; refine oA (oZ hK9 ?_); refine cT (cR fun _ hK10 => ?_); refine oM ?_; refine oS (s_ld rfl ((RdPK.old hw.p2 hw.n2).cel (j := 0) rfl rfl)) ?_; refine oS sC ?_
     by_cases hpl : (p : Int) = K.tx.length
     ·refine oS eqT (oM ?_); refine oY (oM ?_); refine oY (oM ?_); refine oY ?_
      by_cases hqp : (q : Int) = p
      ·refine oS eqT ?_; refine oS sT (oA (oZ hK10 (c_ret ?_))); refine x_block_ret (x_then_ret (?_))
       refine x_sub (Sub.refl _) (H' := [(K.bM, mpO es c)]) hzB ?_; exact xR rfl rfl (⟨es, c, congrArg Value.bool (dQ_b (by rw [der1_3 o3]; exact ⟨fun _ => by omega, fun _ => rfl⟩)).symm, rfl, hes⟩)
      ·refine oS eqF ?_; refine oS sT (oA (oZ hK10 (c_ret ?_))); refine x_block_ret (x_then_ret (?_))
       refine x_sub (Sub.refl _) (H' := [(K.bM, mpO es c)]) hzB ?_; exact xR rfl rfl (⟨es, c, congrArg Value.bool (dQ_b (by rw [der1_3 o3]; exact ⟨fun h => (by cases h), fun h => absurd h (by omega)⟩)).symm, rfl, hes⟩)
     ·refine oS eqF (oM ?_); refine oN ?_; refine oN ?_; refine oN ?_; refine oS sP (oA (oZ hK10 (c_ret ?_))); refine x_block_ret (x_then_ret (?_))
      refine x_sub (Sub.refl _) (H' := [(K.bM, mpO es c)]) hzB ?_; exact xR rfl rfl (⟨es, c, congrArg Value.bool (dQ_b (by rw [der1_3 o3]; exact ⟨fun h => (by cases h), fun h => absurd h (by omega)⟩)).symm, rfl, hes⟩)
    ·refine oS (eqF (h := o3)) ?_; refine oA (oZ hK9 ?_); refine cF (cR fun _ hK11 => ?_)
     by_cases o7 : x.op = 7
     ·refine oS (eqT (h := o7)) ?_; refine oA (oZ hK11 ?_); refine cT (cR fun _ hK12 => ?_); refine oS (s_ld rfl ((RdPK.old hw.p3 hw.n3).cel (j := 0) rfl rfl)) ?_; refine oS sN ?_; refine oS sF ?_; refine oS (s_ld rfl ((RdPK.old hw.p4 hw.n4).cel (j := 4) rfl rfl)) ?_; refine oM ?_; refine oS sD (oM (oM ?_))
      obtain ⟨y, js, rfl⟩ := one_kid hp.wf (.inr o7)
      refine o_callC (us := []) (vs := [_, _, _]) (cs := [pt K.bRe, pt K.bTx, pt K.bA]) (ihN o7 y js rfl (i + 1) _ p q es c hpk hpq hq hes) rfl rfl rfl pkA (fun w st => hw.out st (fun _ h => h)) (fun v61 S61 ⟨es61, c61, hv61, hS61, hm61⟩ => ?_); subst hv61
      subst hS61; refine oA (oZ hK12 (c_ret ?_)); refine x_block_ret (x_then_ret (?_))
      refine x_sub (Sub.refl _) (H' := [(K.bM, mpO es61 c61)]) hzB ?_; exact xR rfl rfl (⟨es61, c61, congrArg Value.bool (dQ_congr (der_one.symm.trans (der1_4 (.inr o7)).symm)), rfl, hm61⟩)
     ·refine oS (eqF (h := o7)) ?_; refine oA (oZ hK11 ?_); refine cF (cR fun _ hK13 => ?_)
      by_cases o4 : x.op = 4
      ·refine oS (eqT (h := o4)) ?_; refine oA (oZ hK13 ?_); refine cT (cR fun _ hK14 => ?_); refine oS (s_ld rfl ((RdPK.old hw.p3 hw.n3).cel (j := 0) rfl rfl)) ?_; refine oS sN ?_; refine oS sF ?_; refine oS (s_ld rfl ((RdPK.old hw.p4 hw.n4).cel (j := 5) rfl rfl)) ?_; refine oM (oM ?_); refine oS sD (oM (oM ?_)); refine oS (s_build (cs := [_, _, _, _]) (vs := [_, _, _, _]) rfl rfl (.cons rfl rfl rfl rfl rfl (.cons rfl rfl rfl rfl rfl (.cons rfl rfl rfl rfl rfl (.cons rfl rfl rfl rfl rfl (.nil)))))) ?_; refine o_callC (us := []) (vs := [_]) (cs := [pt K.bA]) (h4 o4 es c hes) rfl rfl rfl pkA (fun w st => hw.out st (fun _ h => h)) (fun v74 S74 ⟨es74, c74, hv74, hS74, hm74⟩ => ?_)
       subst hv74; subst hS74
       refine oA (oZ hK14 (c_ret ?_)); refine x_block_ret (x_then_ret (?_))
       refine x_sub (Sub.refl _) (H' := [(K.bM, mpO es74 c74)]) hzB ?_; exact xR rfl rfl (⟨es74, c74, congrArg Value.bool (dQ_congr ((Qry_cat hp o4 hpk).trans (der1_4 (.inl o4)).symm)), rfl, hm74⟩)
      ·refine oS (eqF (h := o4)) ?_; refine oA (oZ hK13 ?_); refine cF (cR fun _ hK15 => ?_)
       by_cases o5 : x.op = 5
       ·refine oS (eqT (h := o5)) ?_; refine oA (oZ hK15 ?_); refine cT (cR fun _ hK16 => ?_); refine oS (s_ld rfl ((RdPK.old hw.p3 hw.n3).cel (j := 0) rfl rfl)) ?_; refine oS sN ?_; refine oS sF ?_; refine oS (s_ld rfl ((RdPK.old hw.p4 hw.n4).cel (j := 5) rfl rfl)) ?_; refine oM (oM (oM ?_)); refine oS (s_build (cs := [_, _, _, _]) (vs := [_, _, _, _]) rfl rfl (.cons rfl rfl rfl rfl rfl (.cons rfl rfl rfl rfl rfl (.cons rfl rfl rfl rfl rfl (.cons rfl rfl rfl rfl rfl (.nil)))))) ?_; refine o_callC (us := []) (vs := [_]) (cs := [pt K.bA]) (h5 o5 es c hes) rfl rfl rfl pkA (fun w st => hw.out st (fun _ h => h)) (fun v85 S85 ⟨es85, c85, hv85, hS85, hm85⟩ => ?_)
        subst hv85; subst hS85
        refine oA (oZ hK16 (c_ret ?_)); refine x_block_ret (x_then_ret (?_))
        refine x_sub (Sub.refl _) (H' := [(K.bM, mpO es85 c85)]) hzB ?_; exact xR rfl rfl (⟨es85, c85, congrArg Value.bool (dQ_congr ((Qry_alt hp o5).trans (der1_5 o5).symm)), rfl, hm85⟩)
       ·refine oS (eqF (h := o5)) ?_; refine oA (oZ hK15 ?_); refine cF (c_skip (x_block (xZ hK2 (cR fun _ hK17 => ?_)))); refine oS (s_ld rfl ((RdPK.old hw.p3 hw.n3).cel (j := 0) rfl rfl)) ?_; refine oS sN ?_; refine oS sF ?_; refine oS (s_ld rfl ((RdPK.old hw.p4 hw.n4).cel (j := 5) rfl rfl)) ?_; refine oM (oM (oM ?_)); refine oS (s_build (cs := [_, _, _, _]) (vs := [_, _, _, _]) rfl rfl (.cons rfl rfl rfl rfl rfl (.cons rfl rfl rfl rfl rfl (.cons rfl rfl rfl rfl rfl (.cons rfl rfl rfl rfl rfl (.nil)))))) ?_
        have o6 : x.op = 6 := by omega
        refine o_callC (us := []) (vs := [_]) (cs := [pt K.bA]) (h6 o6 es c hes) rfl rfl rfl pkA (fun w st => hw.out st (fun _ h => h)) (fun v94 S94 ⟨es94, c94, hv94, hS94, hm94⟩ => ?_); subst hv94
        subst hS94; refine oA (oZ hK17 (c_ret ?_)); refine ?_; refine x_sub (Sub.refl _) (H' := [(K.bM, mpO es94 c94)]) hzB ?_; exact xR rfl rfl (⟨es94, c94, congrArg Value.bool (dQ_congr ((Qry_rep hp o6).trans (der1_6 o6).symm)), rfl, hm94⟩)
set_option maxHeartbeats 1000000 in
theorem rest_clo (K : AskE) (k : Ky) (es : List Me) (c : Nat) (hes : MapOk K.tx K.re es) (hF : FindK Tryd.prog K 94 k) : HL.Fn Tryd.prog 93 [.agg (Ek k).toArray, pt K.bA] (fun W => Env W K [K.bM]) [(K.bM, mpO es c)] (AnsK K (Qry K.tx K.re k)) := by
  refine fn_of Tryd.func93 rfl rfl rfl fun w0 hw => ?_; refine cR fun _ hK1 => ?_; refine o_box rfl rfl rfl fun b2 => ?_; refine oA (oZ hK1 (c_seq fun _ hK2 => ?_)); refine c_seq fun _ hK3 => ?_; refine c_drawE ([(b2, .cells (Ek k).toArray 148 (0, 0)), (K.bM, mpO es c)]) (fun i => false) ?_; refine eK 0 rfl (s_ld rfl ((RdPK.old hw.p3 hw.n3).cel (j := 0) rfl rfl)) ?_; refine eK 1 rfl sN ?_; refine eK 2 rfl sF ?_; refine eK 3 rfl (s_ld rfl ((RdPK.old hw.p4 hw.n4).cel (j := 3) rfl rfl)) ?_; refine eK 4 rfl (s_ldB rfl (RdPK.cels (.own meA)) lnA) ?_; refine eK 5 rfl (s_look rfl rfl meA) ?_; refine eK 6 rfl sA (eZ hK3 (cR fun _ hK4 => ?_)); refine oM ?_
  by_cases h0 : getK es k ≠ 0
  ·refine oS (s_neq_t rfl rfl h0) ?_; refine oZ hK4 ?_; refine cT (cR fun _ hK5 => ?_); refine oM ?_; refine oS (s_gtr rfl rfl) ?_; refine oA (oZ hK5 (c_ret ?_)); refine x_then_ret (?_); refine x_sub (Sub.refl _) (H' := [(K.bM, mpO es c)]) hzB ?_; exact xR rfl rfl (⟨es, c, congrArg Value.bool (hes.ans h0), rfl, hes⟩)
  ·refine oS (s_neq_f rfl rfl (Decidable.not_not.1 h0)) ?_; refine oZ hK4 ?_; refine cFZ hK2 (cR fun _ hK6 => ?_); refine oS (s_ld rfl ((RdPK.old hw.p3 hw.n3).cel (j := 0) rfl rfl)) ?_; refine oS (s_ldB rfl (RdPK.cels (.own meA)) lnA) ?_; refine o_call (hF es c hes) rfl rfl rfl pkA (fun w st => hw.out st (fun _ h => h)) (fun v18 S18 ⟨es18, c18, hv18, hS18, hm18⟩ => ?_); subst hv18
   subst hS18
   cases hb18 : dQ (Qry K.tx K.re k)
   ·refine oA (oZ hK6 (c_seq fun _ hK7 => ?_)); refine c_drawE ([(b2, .cells (Ek k).toArray 148 (0, 0))]) (fun i => false) ?_; refine eK 0 rfl (s_ld rfl ((RdPK.old hw.p3 hw.n3).cel (j := 0) rfl rfl)) ?_; refine eK 1 rfl sN ?_; refine eK 2 rfl sF ?_; refine eK 3 rfl (s_ld rfl ((RdPK.old hw.p4 hw.n4).cel (j := 3) rfl rfl)) ?_; refine eK 4 rfl (s_ldB rfl (RdPK.cels (.own meA)) lnA) ?_; refine eO 5 rfl ?_; refine o_mset rfl rfl rfl pkB fun esA cA hgA => ?_; refine oX (eZ hK7 (c_seq fun _ hK8 => ?_)); refine cR fun _ hK9 => ?_; refine oM (oZ hK9 ?_); refine cFZ hK8 (cR fun _ hK10 => ?_); refine oM (oA (oZ hK10 (c_ret ?_))); refine ?_; refine x_sub (Sub.refl _) (H' := [(K.bM, mpO esA cA)]) hzB ?_; exact xR rfl rfl (⟨esA, cA, congrArg Value.bool hb18.symm, rfl, hm18.no (fun h => by rw [dQ_t h] at hb18; cases hb18) hgA⟩)
   ·refine oA (oZ hK6 (c_seq fun _ hK11 => ?_)); refine c_drawE ([(b2, .cells (Ek k).toArray 148 (0, 0))]) (fun i => false) ?_; refine eK 0 rfl (s_ld rfl ((RdPK.old hw.p3 hw.n3).cel (j := 0) rfl rfl)) ?_; refine eK 1 rfl sN ?_; refine eK 2 rfl sF ?_; refine eK 3 rfl (s_ld rfl ((RdPK.old hw.p4 hw.n4).cel (j := 3) rfl rfl)) ?_; refine eK 4 rfl (s_ldB rfl (RdPK.cels (.own meA)) lnA) ?_; refine eO 5 rfl ?_; refine o_mset rfl rfl rfl pkB fun esA cA hgA => ?_; refine oX (eZ hK11 (c_seq fun _ hK12 => ?_)); refine cR fun _ hK13 => ?_; refine oM (oZ hK13 ?_); refine cT ?_; refine c_drawE ([(b2, .cells (Ek k).toArray 148 (0, 0))]) (fun i => false) ?_; refine eK 0 rfl (s_ld rfl ((RdPK.old hw.p3 hw.n3).cel (j := 0) rfl rfl)) ?_; refine eK 1 rfl sN ?_; refine eK 2 rfl sF ?_; refine eK 3 rfl (s_ld rfl ((RdPK.old hw.p4 hw.n4).cel (j := 3) rfl rfl)) ?_; refine eK 4 rfl (s_ldB rfl (RdPK.cels (.own meA)) lnA) ?_; refine eO 5 rfl ?_; refine o_mset rfl rfl rfl pkB fun esB cB hgB => ?_; refine oX (eZ hK12 (cR fun _ hK14 => ?_)); refine oM (oA (oZ hK14 (c_ret ?_))); refine ?_; refine x_sub (Sub.refl _) (H' := [(K.bM, mpO esB cB)]) hzB ?_; exact xR rfl rfl (⟨esB, cB, congrArg Value.bool hb18.symm, rfl, hm18.yes (dQ_iff.1 hb18) hgA hgB⟩)
set_option maxHeartbeats 1000000 in
theorem find_alt (K : AskE) (hK : K.ok) (x : Nd) (ks : F) (i i1 p q : Nat) (es : List Me) (c : Nat) (hp : Part K.re (.nd x ks .nil) i i1) (hpq : p ≤ q) (hq : q ≤ K.tx.length) (hes : MapOk K.tx K.re es) (h5 : x.op = 5) (ihN : ∀ y js, js.size < ks.size → NodeK Tryd.prog K y js) : HL.Fn Tryd.prog 94 [pt K.bS, .agg (Ek (⟨i, -1, p, q⟩ : Ky)).toArray] (fun W => Env W K [K.bM]) [(K.bM, mpO es c)] (AnsK K (Qry K.tx K.re (⟨i, -1, p, q⟩ : Ky))) := by
  refine fn_of Tryd.func94 rfl rfl rfl fun w0 hw => ?_
  have hsl := hw.d1.sl
  have hst := hw.d2.sl
  have hse := hw.d3.sl
  have htl := hK.tx
  have hrl := hK.len
  obtain rfl : i1 = i + 1 + ks.size := by have := hp.len; simp only [F.size] at this; omega
  obtain ⟨hx, hpk, _⟩ := hp.head
  have hilt := (List.getElem?_eq_some_iff.1 hx).1
  have hxm := List.mem_of_getElem? hx
  have hox := hK.rng x hxm
  have hx8 := hK.no8 x hxm
  have hok : ndOk x = true := hp.wf.1
  have hop : 1 ≤ x.op ∧ x.op ≤ 8 := (flds_iff.1 (by simp only [ndOk, Bool.and_eq_true] at hok; exact hok.1)).1
  have hpkl := hpk.le
  have hei := hK.ends.2 i x ks .nil _ (Nat.zero_le _) hp
  have hell := hK.ends.1
  rw [hell] at hse
  refine cR fun _ hK1 => ?_; refine o_box rfl rfl rfl fun b3 => ?_; refine oA (oZ hK1 (c_seq fun _ hK2 => ?_)); refine c_drawE ([(b3, .cells (Ek (⟨i, -1, p, q⟩ : Ky)).toArray 148 (0, 0))]) (fun i => false) ?_; refine eK 0 rfl sM ?_; refine eK 1 rfl sN ?_; refine eK 2 rfl sF ?_; refine eK 3 rfl (s_ld rfl ((RdPK.old hw.p4 hw.n4).cel (j := 0) rfl rfl)) ?_; refine eK 4 rfl sF ?_; refine eK 5 rfl (s_ld rfl ((.own meA rfl : Cel _ _ _ (.int .i64 (i : Int))))) ?_; refine eK 6 rfl (s_idx rfl rfl hsl (by omega)) ?_; refine eK 7 rfl (s_ldB rfl ((RdK.old hw.d1 hw.a1).lds i hx rfl) (by rfl)) ?_; refine eO 8 rfl ?_; refine o_alloc (l := En zN) (by rw [En_zero]; rfl) rfl fun b5 => ?_; refine oX (eO 9 rfl ?_); refine o_stW rfl rfl upA lnA lnA onA ?_; refine oX (eZ hK2 (c_seq fun _ hK3 => ?_)); refine cR fun _ hK4 => ?_; refine oS sF ?_; refine oS sL (oZ hK4 (c_block (cR fun _ hK5 => ?_))); refine oS (s_eql_t rfl rfl (by omega)) ?_; refine oA (oZ hK5 ?_); refine cT (c_seq fun _ hK6 => ?_); refine cR fun _ hK7 => ?_; refine oS sF ?_; refine oS (s_ld rfl ((.own meA rfl : Cel _ _ _ (.int .i64 (i : Int))))) ?_; refine oS sD ?_
  refine oA (oZ hK7 (c_block ?_))
  -- not carried: 4
  refine c_loop4 (fun (kp : Nat) (g : F) (es2 : List Me) (c2 : Nat) => Part K.re g kp (i + 1 + ks.size) ∧ g.size ≤ ks.size ∧ (der K.tx ks true p q ↔ der K.tx g true p q) ∧ MapOk K.tx K.re es2) (fun (kp : Nat) (g : F) (es2 : List Me) (c2 : Nat) => [(6, .int .i64 kp)]) [(0, _), (3, _), (5, _)] (fun (kp : Nat) (g : F) (es2 : List Me) (c2 : Nat) => (K.bM, mpO es2 c2) :: (b5, .cells (En x).toArray 80 (0, 0)) :: [(b3, .cells (Ek (⟨i, -1, p, q⟩ : Ky)).toArray 148 (0, 0))]) (fun (kp : Nat) (g : F) (es2 : List Me) (c2 : Nat) => g.size) (i + 1) ks es c ⟨hpk, Nat.le_refl _, Iff.rfl, hes⟩ sbA sbA hzB ?_
  rintro kp g es2 c2 ⟨hpg, hgs, hder, hes2⟩
  have hgl := hpg.len
  have hgle := hpg.le
  refine c_seq fun _ hK8 => ?_; refine c_seq fun _ hK9 => ?_; refine c_drawE ([(b3, .cells (Ek (⟨i, -1, p, q⟩ : Ky)).toArray 148 (0, 0))]) (fun i => false) ?_; refine eK 0 rfl sM ?_; refine eK 1 rfl sM ?_; refine eK 2 rfl sN ?_; refine eK 3 rfl sF ?_; refine eK 4 rfl (s_ld rfl ((RdPK.old hw.p4 hw.n4).cel (j := 1) rfl rfl)) ?_; refine eK 5 rfl sF ?_; refine eK 6 rfl (s_ld rfl ((.own meA rfl : Cel _ _ _ (.int .i64 (i : Int))))) ?_; refine eK 7 rfl (s_idx rfl rfl hse (by omega)) ?_; refine eK 8 rfl (s_ld rfl ((RdK.old hw.d3 hw.a3).ld i 0 hei rfl (by decide) (by omega))) ?_
  by_cases hk : (kp : Int) < i + 1 + ks.size
  ·obtain ⟨y, js, r2, rfl⟩ : ∃ y ks1 r2, g = F.nd y ks1 r2 := by cases g with | nil => simp [F.size] at hgl; omega | nd y a b => exact ⟨y, a, b, rfl⟩
   obtain ⟨hy, hpy, hpt⟩ := hpg.head
   have hpo := hpg.one
   have hge := hK.ends.2 _ y js r2 _ (Nat.zero_le _) hpg
   have hply := hpy.le
   simp only [F.size] at hgs hgl
   refine eK 9 rfl lsT (eZ hK9 ?_); refine cTZ hK8 (c_seq fun _ hK10 => ?_); refine c_block (c_seq fun _ hK11 => ?_); refine c_drawE ([(b3, .cells (Ek (⟨i, -1, p, q⟩ : Ky)).toArray 148 (0, 0))]) (fun i => false) ?_; refine eK 0 rfl sM ?_; refine eK 1 rfl sN ?_; refine eK 2 rfl sF ?_; refine eK 3 rfl (s_ld rfl ((RdPK.old hw.p4 hw.n4).cel (j := 4) rfl rfl)) ?_; refine eK 4 rfl sM ?_; refine eK 5 rfl sF ?_; refine eK 6 rfl (s_ld rfl ((.own meA rfl : Cel _ _ _ (.int .i64 (p : Int))))) ?_; refine eK 7 rfl sF ?_; refine eK 8 rfl (s_ld rfl ((.own meA rfl : Cel _ _ _ (.int .i64 (q : Int))))) ?_; refine eO 9 rfl ?_; refine o_callC (us := []) (vs := [_, _, _]) (cs := [pt K.bRe, pt K.bTx, pt K.bA]) (ihN y js (by omega) kp _ p q es2 c2 hpo hpq hq hes2) rfl rfl rfl pkA (fun w st => hw.out st (fun _ h => h)) (fun v52 S52 ⟨es52, c52, hv52, hS52, hm52⟩ => ?_); subst hv52
   subst hS52
   cases hb52 : dQ (der1 K.tx y js p q)
   ·have hn52 : ¬ der1 K.tx y js p q := fun h => by rw [dQ_t h] at hb52; cases hb52
    refine oX (eZ hK11 ?_); refine cF (c_skip (x_block (xZ hK10 (c_region (oM ?_))))); refine oS sN ?_; refine oS sF ?_; refine oS (s_ld rfl ((RdPK.old hw.p4 hw.n4).cel (j := 1) rfl rfl)) ?_; refine oM ?_; refine oS (s_idx rfl rfl hse (by omega)) ?_; refine oS (s_ld rfl ((RdK.old hw.d3 hw.a3).ld kp 0 hge rfl (by decide) (by omega))) ?_; refine oA (o_nil ?_); exact x_then (x_inv ((kp + 1 + js.size), r2, es52, c52) ⟨hpt, by dsimp only; omega, by dsimp only; rw [hder, der_alt]; exact ⟨fun h => h.resolve_left hn52, .inr⟩, hm52⟩ (by simp only [F.size]; omega) sbA hzB)
   ·refine oX (eZ hK11 ?_); refine cT (cR fun _ hK12 => ?_); refine oA (oZ hK12 (c_ret ?_)); refine x_block_ret (x_then_ret (x_then_ret (x_block_ret (x_then_ret (x_block_ret (x_then_ret (?_)))))))
    refine x_sub (Sub.refl _) (H' := [(K.bM, mpO es52 c52)]) hzB ?_; exact xR rfl rfl (⟨es52, c52, congrArg Value.bool (dQ_t ((Qry_alt hp h5).2 (hder.2 (der_alt.2 (.inl (dQ_iff.1 hb52)))))).symm, rfl, hm52⟩)
  ·obtain rfl : g = F.nil := F.size_nil (by omega)
   refine eK 9 rfl lsF (eZ hK9 ?_); refine cF ?_; refine c_exit ?_; refine x_then_exit (x_then_exit (x_block_exit (xZ hK6 (cR fun _ hK13 => ?_)))); refine oA (oZ hK13 (c_ret ?_)); refine x_block_ret (x_then_ret (?_))
   refine x_sub (Sub.refl _) (H' := [(K.bM, mpO es2 c2)]) hzB ?_; exact xR rfl rfl (⟨es2, c2, congrArg Value.bool (dQ_f fun h => der_nil'.1 (hder.1 ((Qry_alt hp h5).1 h))).symm, rfl, hes2⟩)
set_option maxHeartbeats 1000000 in
theorem find_cat (K : AskE) (hK : K.ok) (x : Nd) (ks : F) (i i1 p q : Nat) (es : List Me) (c : Nat) (hp : Part K.re (.nd x ks .nil) i i1) (hpq : p ≤ q) (hq : q ≤ K.tx.length) (hes : MapOk K.tx K.re es) (m : Nat) (g : F) (hg : Part K.re g m i1) (h4 : x.op = 4) (hkid : ∀ y js r, g = .nd y js r → KidK Tryd.prog K 111 (⟨i, m, p, q⟩ : Ky) (fun n => der1 K.tx y js p n ∧ der K.tx r false n q) p q) : HL.Fn Tryd.prog 94 [pt K.bS, .agg (Ek (⟨i, m, p, q⟩ : Ky)).toArray] (fun W => Env W K [K.bM]) [(K.bM, mpO es c)] (AnsK K (Qry K.tx K.re (⟨i, m, p, q⟩ : Ky))) := by
  refine fn_of Tryd.func94 rfl rfl rfl fun w0 hw => ?_
  have hsl := hw.d1.sl
  have hst := hw.d2.sl
  have hse := hw.d3.sl
  have htl := hK.tx
  have hrl := hK.len
  obtain rfl : i1 = i + 1 + ks.size := by have := hp.len; simp only [F.size] at this; omega
  obtain ⟨hx, hpk, _⟩ := hp.head
  have hilt := (List.getElem?_eq_some_iff.1 hx).1
  have hxm := List.mem_of_getElem? hx
  have hox := hK.rng x hxm
  have hx8 := hK.no8 x hxm
  have hok : ndOk x = true := hp.wf.1
  have hop : 1 ≤ x.op ∧ x.op ≤ 8 := (flds_iff.1 (by simp only [ndOk, Bool.and_eq_true] at hok; exact hok.1)).1
  have hpkl := hpk.le
  have hei := hK.ends.2 i x ks .nil _ (Nat.zero_le _) hp
  have hell := hK.ends.1
  rw [hell] at hse
  have hpg := hg
  have hgl := hpg.len
  refine cR fun _ hK1 => ?_; refine o_box rfl rfl rfl fun b3 => ?_; refine oA (oZ hK1 (c_seq fun _ hK2 => ?_)); refine c_drawE ([(b3, .cells (Ek (⟨i, m, p, q⟩ : Ky)).toArray 148 (0, 0))]) (fun i => false) ?_; refine eK 0 rfl sM ?_; refine eK 1 rfl sN ?_; refine eK 2 rfl sF ?_; refine eK 3 rfl (s_ld rfl ((RdPK.old hw.p4 hw.n4).cel (j := 0) rfl rfl)) ?_; refine eK 4 rfl sF ?_; refine eK 5 rfl (s_ld rfl ((.own meA rfl : Cel _ _ _ (.int .i64 (i : Int))))) ?_; refine eK 6 rfl (s_idx rfl rfl hsl (by omega)) ?_; refine eK 7 rfl (s_ldB rfl ((RdK.old hw.d1 hw.a1).lds i hx rfl) (by rfl)) ?_; refine eO 8 rfl ?_; refine o_alloc (l := En zN) (by rw [En_zero]; rfl) rfl fun b5 => ?_; refine oX (eO 9 rfl ?_); refine o_stW rfl rfl upA lnA lnA onA ?_; refine oX (eZ hK2 (c_seq fun _ hK3 => ?_)); refine cR fun _ hK4 => ?_; refine oS sF ?_; refine oS sL (oZ hK4 (c_block (cR fun _ hK5 => ?_))); refine oS (s_eql_f rfl rfl (by omega)) ?_; refine oA (oZ hK5 ?_); refine cF (cR fun _ hK6 => ?_); refine oS (s_eql_t rfl rfl (by omega)) ?_; refine oA (oZ hK6 ?_); refine cT (c_seq fun _ hK7 => ?_)
  refine c_seq fun _ hK8 => ?_; refine c_drawE ([(b3, .cells (Ek (⟨i, m, p, q⟩ : Ky)).toArray 148 (0, 0))]) (fun i => false) ?_; refine eK 0 rfl sF ?_; refine eK 1 rfl (s_ld rfl ((.own meA rfl : Cel _ _ _ (.int .i64 (m : Int))))) ?_; refine eK 2 rfl sM ?_; refine eK 3 rfl sN ?_; refine eK 4 rfl sF ?_; refine eK 5 rfl (s_ld rfl ((RdPK.old hw.p4 hw.n4).cel (j := 1) rfl rfl)) ?_; refine eK 6 rfl sF ?_; refine eK 7 rfl (s_ld rfl ((.own meA rfl : Cel _ _ _ (.int .i64 (i : Int))))) ?_; refine eK 8 rfl (s_idx rfl rfl hse (by omega)) ?_; refine eK 9 rfl (s_ld rfl ((RdK.old hw.d3 hw.a3).ld i 0 hei rfl (by decide) (by omega))) ?_
  by_cases hme : (m : Int) = i + 1 + ks.size
  ·obtain rfl : g = F.nil := F.size_nil (by omega)
   refine eK 10 rfl eqT (eZ hK8 ?_); refine cT (cR fun _ hK9 => ?_); refine oS sF ?_; refine oS (s_ld rfl ((.own meA rfl : Cel _ _ _ (.int .i64 (p : Int))))) ?_; refine oS sF ?_; refine oS (s_ld rfl ((.own meA rfl : Cel _ _ _ (.int .i64 (q : Int))))) ?_; refine oS (s_eql rfl rfl) ?_; refine oA (oZ hK9 (c_ret ?_)); refine x_then_ret (x_block_ret (x_then_ret (?_)))
   refine x_sub (Sub.refl _) (H' := [(K.bM, mpO es c)]) hzB ?_; exact xR rfl rfl (⟨es, c, congrArg Value.bool (dQ_b (by rw [Qry_cat hp h4 hg, der_nil, decide_eq_true_iff]; omega)).symm, rfl, hes⟩)
  ·obtain ⟨y, js, r2, rfl⟩ : ∃ y ks1 r2, g = F.nd y ks1 r2 := by cases g with | nil => simp [F.size] at hgl; omega | nd y a b => exact ⟨y, a, b, rfl⟩
   obtain ⟨hy, hpy, hpt⟩ := hpg.head
   have hpo := hpg.one
   have hge := hK.ends.2 _ y js r2 _ (Nat.zero_le _) hpg
   have hply := hpy.le
   refine eK 10 rfl eqF (eZ hK8 ?_); refine cFZ hK7 (cR fun _ hK10 => ?_); refine oM ?_; refine oS (s_ldB rfl (RdPK.cels (.own meA)) lnA) ?_; refine o_call (hkid y js r2 rfl es c hes) rfl rfl rfl pkA (fun w st => hw.out st (fun _ h => h)) (fun v74 S74 ⟨es74, c74, hS74, hm74, hv74⟩ => ?_); subst hS74
   rcases hv74 with ⟨m74, hg74, rfl⟩ | ⟨hn74, rfl⟩
   ·refine oM ?_; refine oS sE ?_; refine oS sE (oA (oA (oZ hK10 (cR fun _ hK11 => ?_)))); refine oM (oA (oZ hK11 (c_ret ?_))); refine x_block_ret (x_then_ret (?_))
    refine x_sub (Sub.refl _) (H' := [(K.bM, mpO es74 c74)]) hzB ?_; exact xR rfl rfl (⟨es74, c74, congrArg Value.bool (dQ_t ((Qry_cat hp h4 hg).2 (der_cat.2 ⟨m74, hg74.2.2.1.1, hg74.2.2.1.2⟩))).symm, rfl, hm74⟩)
   ·refine oM ?_; refine oS sE ?_; refine oS sE (oA (oA (oZ hK10 (cR fun _ hK12 => ?_)))); refine oM (oA (oZ hK12 (c_ret ?_))); refine x_block_ret (x_then_ret (?_))
    refine x_sub (Sub.refl _) (H' := [(K.bM, mpO es74 c74)]) hzB ?_; exact xR rfl rfl (⟨es74, c74, congrArg Value.bool (dQ_f fun h => kid_cat hn74 ((Qry_cat hp h4 hg).1 h)).symm, rfl, hm74⟩)
set_option maxHeartbeats 1000000 in
theorem find_rep (K : AskE) (hK : K.ok) (x : Nd) (ks : F) (i i1 p q : Nat) (es : List Me) (c : Nat) (hp : Part K.re (.nd x ks .nil) i i1) (hpq : p ≤ q) (hq : q ≤ K.tx.length) (hes : MapOk K.tx K.re es) (r : Nat) (h6 : x.op = 6) (hr : x.mx = -1 ∨ (r : Int) ≤ x.mx) (hrnd : KidK Tryd.prog K 112 (⟨i, r, p, q⟩ : Ky) (RQ x (der K.tx ks false) r p q) p q) : HL.Fn Tryd.prog 94 [pt K.bS, .agg (Ek (⟨i, r, p, q⟩ : Ky)).toArray] (fun W => Env W K [K.bM]) [(K.bM, mpO es c)] (AnsK K (Qry K.tx K.re (⟨i, r, p, q⟩ : Ky))) := by
  refine fn_of Tryd.func94 rfl rfl rfl fun w0 hw => ?_
  have hsl := hw.d1.sl
  have hst := hw.d2.sl
  have hse := hw.d3.sl
  have htl := hK.tx
  have hrl := hK.len
  obtain rfl : i1 = i + 1 + ks.size := by have := hp.len; simp only [F.size] at this; omega
  obtain ⟨hx, hpk, _⟩ := hp.head
  have hilt := (List.getElem?_eq_some_iff.1 hx).1
  have hxm := List.mem_of_getElem? hx
  have hox := hK.rng x hxm
  have hx8 := hK.no8 x hxm
  have hok : ndOk x = true := hp.wf.1
  have hop : 1 ≤ x.op ∧ x.op ≤ 8 := (flds_iff.1 (by simp only [ndOk, Bool.and_eq_true] at hok; exact hok.1)).1
  have hpkl := hpk.le
  have hei := hK.ends.2 i x ks .nil _ (Nat.zero_le _) hp
  have hell := hK.ends.1
  rw [hell] at hse
  refine cR fun _ hK1 => ?_; refine o_box rfl rfl rfl fun b3 => ?_; refine oA (oZ hK1 (c_seq fun _ hK2 => ?_)); refine c_drawE ([(b3, .cells (Ek (⟨i, r, p, q⟩ : Ky)).toArray 148 (0, 0))]) (fun i => false) ?_; refine eK 0 rfl sM ?_; refine eK 1 rfl sN ?_; refine eK 2 rfl sF ?_; refine eK 3 rfl (s_ld rfl ((RdPK.old hw.p4 hw.n4).cel (j := 0) rfl rfl)) ?_; refine eK 4 rfl sF ?_; refine eK 5 rfl (s_ld rfl ((.own meA rfl : Cel _ _ _ (.int .i64 (i : Int))))) ?_; refine eK 6 rfl (s_idx rfl rfl hsl (by omega)) ?_; refine eK 7 rfl (s_ldB rfl ((RdK.old hw.d1 hw.a1).lds i hx rfl) (by rfl)) ?_; refine eO 8 rfl ?_; refine o_alloc (l := En zN) (by rw [En_zero]; rfl) rfl fun b5 => ?_; refine oX (eO 9 rfl ?_); refine o_stW rfl rfl upA lnA lnA onA ?_; refine oX (eZ hK2 (c_seq fun _ hK3 => ?_)); refine cR fun _ hK4 => ?_; refine oS sF ?_; refine oS sL (oZ hK4 (c_block (cR fun _ hK5 => ?_))); refine oS (s_eql_f rfl rfl (by omega)) ?_; refine oA (oZ hK5 ?_); refine cF (cR fun _ hK6 => ?_); refine oS (s_eql_f rfl rfl (by omega)) ?_; refine oA (oZ hK6 ?_); refine cF (c_skip (x_block ?_))
  refine xZ hK3 (c_seq fun _ hK7 => ?_); refine cR fun _ hK8 => ?_; refine oS sF ?_; refine oS (s_ld rfl ((.own meA rfl : Cel _ _ _ (.int .i64 (p : Int))))) ?_; refine oS sF ?_; refine oS (s_ld rfl ((.own meA rfl : Cel _ _ _ (.int .i64 (q : Int))))) ?_
  by_cases hpe : (p : Int) = q
  ·refine oS eqT (oM ?_); refine oY ?_; refine oS sF ?_; refine oY ?_; refine oS (s_ld rfl ((.own meA rfl : Cel _ _ _ (.int .i64 (r : Int))))) ?_; refine oY ?_; refine oS sF ?_; refine oY ?_; refine oS sL ?_; refine oY ?_
   by_cases hrm : (r : Int) ≥ x.mn
   ·refine oS geT ?_; refine oS sT (oZ hK8 ?_); refine cT (cR fun _ hK9 => ?_); refine oA (oZ hK9 (c_ret ?_)); refine x_then_ret (?_); refine x_sub (Sub.refl _) (H' := [(K.bM, mpO es c)]) hzB ?_; exact xR rfl rfl (⟨es, c, congrArg Value.bool (dQ_t ((Qry_rep hp h6).2 (RR_step.2 (.inl ⟨by omega, hrm, hr⟩)))).symm, rfl, hes⟩)
   ·refine oS geF ?_; refine oS sT (oZ hK8 ?_); refine cFZ hK7 (cR fun _ hK10 => ?_); refine oM ?_; refine oS (s_ldB rfl (RdPK.cels (.own meA)) lnA) ?_; refine o_call (hrnd es c hes) rfl rfl rfl pkA (fun w st => hw.out st (fun _ h => h)) (fun v93 S93 ⟨es93, c93, hS93, hm93, hv93⟩ => ?_); subst hS93
    rcases hv93 with ⟨m93, hg93, rfl⟩ | ⟨hn93, rfl⟩
    ·refine oM ?_; refine oS sE ?_; refine oS sE (oA (oA (oZ hK10 (cR fun _ hK11 => ?_)))); refine oM (oA (oZ hK11 (c_ret ?_))); refine ?_; refine x_sub (Sub.refl _) (H' := [(K.bM, mpO es93 c93)]) hzB ?_; exact xR rfl rfl (⟨es93, c93, congrArg Value.bool (dQ_t ((Qry_rep hp h6).2 (RR_step.2 (.inr ⟨m93, hg93.2.2.1⟩)))).symm, rfl, hm93⟩)
    ·refine oM ?_; refine oS sE ?_; refine oS sE (oA (oA (oZ hK10 (cR fun _ hK12 => ?_)))); refine oM (oA (oZ hK12 (c_ret ?_))); refine ?_; refine x_sub (Sub.refl _) (H' := [(K.bM, mpO es93 c93)]) hzB ?_; exact xR rfl rfl (⟨es93, c93, congrArg Value.bool (dQ_f fun h => kid_rep (der_up _ _) (by omega) hn93 ((Qry_rep hp h6).1 h)).symm, rfl, hm93⟩)
  ·refine oS eqF (oM ?_); refine oN ?_; refine oN ?_; refine oN ?_; refine oN ?_; refine oN ?_; refine oS sP (oZ hK8 ?_); refine cFZ hK7 (cR fun _ hK13 => ?_); refine oM ?_; refine oS (s_ldB rfl (RdPK.cels (.own meA)) lnA) ?_; refine o_call (hrnd es c hes) rfl rfl rfl pkA (fun w st => hw.out st (fun _ h => h)) (fun v93 S93 ⟨es93, c93, hS93, hm93, hv93⟩ => ?_); subst hS93
   rcases hv93 with ⟨m93, hg93, rfl⟩ | ⟨hn93, rfl⟩
   ·refine oM ?_; refine oS sE ?_; refine oS sE (oA (oA (oZ hK13 (cR fun _ hK14 => ?_)))); refine oM (oA (oZ hK14 (c_ret ?_))); refine ?_; refine x_sub (Sub.refl _) (H' := [(K.bM, mpO es93 c93)]) hzB ?_; exact xR rfl rfl (⟨es93, c93, congrArg Value.bool (dQ_t ((Qry_rep hp h6).2 (RR_step.2 (.inr ⟨m93, hg93.2.2.1⟩)))).symm, rfl, hm93⟩)
   ·refine oM ?_; refine oS sE ?_; refine oS sE (oA (oA (oZ hK13 (cR fun _ hK15 => ?_)))); refine oM (oA (oZ hK15 (c_ret ?_))); refine ?_; refine x_sub (Sub.refl _) (H' := [(K.bM, mpO es93 c93)]) hzB ?_; exact xR rfl rfl (⟨es93, c93, congrArg Value.bool (dQ_f fun h => kid_rep (der_up _ _) (by omega) hn93 ((Qry_rep hp h6).1 h)).symm, rfl, hm93⟩)
set_option maxHeartbeats 1000000 in
theorem kid_fn (K : AskE) (hK : K.ok) (x : Nd) (ks : F) (i i1 p q : Nat) (es : List Me) (c : Nat) (hp : Part K.re (.nd x ks .nil) i i1) (hpq : p ≤ q) (hq : q ≤ K.tx.length) (hes : MapOk K.tx K.re es) (m : Nat) (y : Nd) (js r : F) (hg : Part K.re (.nd y js r) m i1) (ihN : NodeK Tryd.prog K y js) (ihR : ∀ n, p ≤ n → n ≤ q → RestK Tryd.prog K ⟨i, (m + 1 + js.size : Nat), n, q⟩) (h4 : x.op = 4) : HL.Fn Tryd.prog 111 [pt K.bS, .agg (Ek (⟨i, m, p, q⟩ : Ky)).toArray] (fun W => Env W K [K.bM]) [(K.bM, mpO es c)] (KidP K (fun n => der1 K.tx y js p n ∧ der K.tx r false n q) p q) := by
  refine fn_of Tryd.func111 rfl rfl rfl fun w0 hw => ?_
  have hsl := hw.d1.sl
  have hst := hw.d2.sl
  have hse := hw.d3.sl
  have htl := hK.tx
  have hrl := hK.len
  obtain rfl : i1 = i + 1 + ks.size := by have := hp.len; simp only [F.size] at this; omega
  obtain ⟨hx, hpk, _⟩ := hp.head
  have hilt := (List.getElem?_eq_some_iff.1 hx).1
  have hxm := List.mem_of_getElem? hx
  have hox := hK.rng x hxm
  have hx8 := hK.no8 x hxm
  have hok : ndOk x = true := hp.wf.1
  have hop : 1 ≤ x.op ∧ x.op ≤ 8 := (flds_iff.1 (by simp only [ndOk, Bool.and_eq_true] at hok; exact hok.1)).1
  have hpkl := hpk.le
  have hei := hK.ends.2 i x ks .nil _ (Nat.zero_le _) hp
  have hell := hK.ends.1
  rw [hell] at hse
  have hgl := hg.len
  simp only [F.size] at hgl
  have hge := hK.ends.2 m y js r _ (Nat.zero_le _) hg
  obtain ⟨hy, hpy, hpt⟩ := hg.head
  have hmlt := (List.getElem?_eq_some_iff.1 hy).1
  have hle2 := hg.le
  refine cR fun _ hK1 => ?_; refine o_box rfl rfl rfl fun b3 => ?_; refine oA (oA (oZ hK1 (c_seq fun _ hK2 => ?_))); refine cR fun _ hK3 => ?_; refine oS sF ?_; refine oS (s_ld rfl ((.own meA rfl : Cel _ _ _ (.int .i64 (q : Int))))) ?_; refine oA (oZ hK3 (c_block ?_))
  -- not carried: 4 5
  refine c_loop3 (fun (n : Nat) (es2 : List Me) (c2 : Nat) => p ≤ n ∧ n ≤ q + 1 ∧ (∀ m2, n ≤ m2 → m2 ≤ q → ¬ (fun n => der1 K.tx y js p n ∧ der K.tx r false n q) m2) ∧ MapOk K.tx K.re es2) (fun (n : Nat) (es2 : List Me) (c2 : Nat) => [(6, .int .i64 ((n : Int) - 1))]) [(0, _), (3, _)] (fun (n : Nat) (es2 : List Me) (c2 : Nat) => (K.bM, mpO es2 c2) :: [(b3, .cells (Ek (⟨i, m, p, q⟩ : Ky)).toArray 148 (0, 0))]) (fun (n : Nat) (es2 : List Me) (c2 : Nat) => n) (q + 1) es c ⟨by omega, by omega, fun m2 h1 h2 => absurd h1 (by omega), hes⟩ (by exact Sub.cons' rfl (by congr 1; omega) sbA) sbA hzB ?_
  rintro n es2 c2 ⟨hn1, hn2, hno, hes2⟩
  refine c_seq fun _ hK4 => ?_; refine cR fun _ hK5 => ?_; refine oM ?_; refine oS sF ?_; refine oS (s_ld rfl ((.own meA rfl : Cel _ _ _ (.int .i64 (p : Int))))) ?_
  by_cases hnp : (n : Int) - 1 ≥ p
  ·obtain ⟨a, rfl⟩ : ∃ a, n = a + 1 := ⟨n - 1, by omega⟩
   refine oS geT (oZ hK5 ?_); refine cTZ hK4 (c_seq fun _ hK6 => ?_); refine c_block (c_seq fun _ hK7 => ?_); refine c_drawE ([(b3, .cells (Ek (⟨i, m, p, q⟩ : Ky)).toArray 148 (0, 0))]) (fun i => false) ?_; refine eK 0 rfl sM ?_; refine eK 1 rfl sN ?_; refine eK 2 rfl sF ?_; refine eK 3 rfl (s_ld rfl ((RdPK.old hw.p4 hw.n4).cel (j := 4) rfl rfl)) ?_; refine eK 4 rfl sF ?_; refine eK 5 rfl (s_ld rfl ((.own meA rfl : Cel _ _ _ (.int .i64 (m : Int))))) ?_; refine eK 6 rfl sF ?_; refine eK 7 rfl (s_ld rfl ((.own meA rfl : Cel _ _ _ (.int .i64 (p : Int))))) ?_; refine eK 8 rfl (step_cast (v' := .int .i64 (a : Int)) (s_move rfl) (congrArg (Value.int .i64) (by omega))) ?_; refine eO 9 rfl ?_; refine o_callC (us := []) (vs := [_, _, _]) (cs := [pt K.bRe, pt K.bTx, pt K.bA]) (ihN m _ p a es2 c2 hg.one (by omega) (by omega) hes2) rfl rfl rfl pkA (fun w st => hw.out st (fun _ h => h)) (fun v24 S24 ⟨es24, c24, hv24, hS24, hm24⟩ => ?_); subst hv24
   subst hS24
   cases hb24 : dQ (der1 K.tx y js p a)
   ·have hno2 : ¬ (der1 K.tx y js p a ∧ der K.tx r false a q) := fun h => by rw [dQ_t h.1] at hb24; cases hb24
    refine oX ?_; refine eK 10 rfl sM ?_; refine eS 11 rfl (eS 12 rfl (eS 13 rfl (eS 14 rfl (eS 15 rfl (eS 16 rfl (eS 17 rfl (eS 18 rfl (eS 19 rfl (eS 20 rfl (eS 21 rfl (eS 22 rfl (eS 23 rfl (eS 24 rfl (eS 25 rfl (eS 26 rfl (eS 27 rfl (eS 28 rfl (eO 29 rfl ?_)))))))))))))))))); refine oN (oX ?_); refine eK 30 rfl sP (eZ hK7 ?_); refine cF (c_skip (x_block (xZ hK6 (c_region (oM ?_))))); refine oS sU (oA (o_nil ?_)); exact x_then (x_inv (a, es24, c24) ⟨by omega, by omega, fun m2 h1 h2 => if e : m2 = a then by subst e; exact hno2 else hno m2 (by omega) h2, hm24⟩ (by first | omega | (dsimp only; omega)) (by exact Sub.cons' rfl (by congr 1; omega) sbA) hzB)
   ·refine oX ?_; refine eK 10 rfl sM ?_; refine eG 11 rfl sM ?_; refine eG 12 rfl sN ?_; refine eG 13 rfl sF ?_; refine eG 14 rfl (s_ld rfl ((RdPK.old hw.p4 hw.n4).cel (j := 5) rfl rfl)) ?_; refine eG 15 rfl sF ?_; refine eG 16 rfl (s_ld rfl ((.own meA rfl : Cel _ _ _ (.int .i64 (i : Int))))) ?_; refine eG 17 rfl sM ?_; refine eG 18 rfl sN ?_; refine eG 19 rfl sF ?_; refine eG 20 rfl (s_ld rfl ((RdPK.old hw.p4 hw.n4).cel (j := 1) rfl rfl)) ?_; refine eG 21 rfl sF ?_; refine eG 22 rfl (s_ld rfl ((.own meA rfl : Cel _ _ _ (.int .i64 (m : Int))))) ?_; refine eG 23 rfl (s_idx rfl rfl hse (by omega)) ?_; refine eG 24 rfl (s_ld rfl ((RdK.old hw.d3 hw.a3).ld m 0 hge rfl (by decide) (by omega))) ?_; refine eG 25 rfl (step_cast (v' := .int .i64 (a : Int)) (s_move rfl) (congrArg (Value.int .i64) (by omega))) ?_; refine eG 26 rfl sF ?_; refine eG 27 rfl (s_ld rfl ((.own meA rfl : Cel _ _ _ (.int .i64 (q : Int))))) ?_; refine eG 28 rfl (s_build (cs := [_, _, _, _]) (vs := [_, _, _, _]) rfl rfl (.cons rfl rfl rfl rfl rfl (.cons rfl rfl rfl rfl rfl (.cons rfl rfl rfl rfl rfl (.cons rfl rfl rfl rfl rfl (.nil)))))) ?_; refine eO 29 rfl ?_; refine oY ?_; refine o_callC (us := []) (vs := [_]) (cs := [pt K.bA]) (ihR a (by omega) (by omega) es24 c24 hm24) rfl rfl rfl pkA (fun w st => hw.out st (fun _ h => h)) (fun v44 S44 ⟨es44, c44, hv44, hS44, hm44⟩ => ?_); subst hv44
    subst hS44
    cases hb44 : dQ (Qry K.tx K.re ⟨i, (m + 1 + js.size : Nat), a, q⟩)
    ·have hno2 : ¬ (der1 K.tx y js p a ∧ der K.tx r false a q) := fun h => by rw [dQ_t ((Qry_cat hp h4 hpt).2 h.2)] at hb44; cases hb44
     refine oX ?_; refine eK 30 rfl sT (eZ hK7 ?_); refine cF (c_skip (x_block (xZ hK6 (c_region (oM ?_))))); refine oS sU (oA (o_nil ?_)); exact x_then (x_inv (a, es44, c44) ⟨by omega, by omega, fun m2 h1 h2 => if e : m2 = a then by subst e; exact hno2 else hno m2 (by omega) h2, hm44⟩ (by first | omega | (dsimp only; omega)) (by exact Sub.cons' rfl (by congr 1; omega) sbA) hzB)
    ·refine oX ?_; refine eK 30 rfl sT (eZ hK7 ?_); refine cT (cR fun _ hK8 => ?_); refine oS (step_cast (v' := .int .i64 (a : Int)) (s_move rfl) (congrArg (Value.int .i64) (by omega))) ?_; refine oA (oA (oZ hK8 (c_ret ?_))); refine x_block_ret (x_then_ret (x_then_ret (x_block_ret (x_then_ret (?_)))))
     refine x_sub (Sub.refl _) (H' := [(K.bM, mpO es44 c44)]) hzB ?_; exact x_ret rfl (.tmp rfl (.tmp rfl (.nil))) (⟨es44, c44, rfl, hm44, .inl ⟨a, ⟨by omega, by omega, ⟨dQ_iff.1 hb24, (Qry_cat hp h4 hpt).1 (dQ_iff.1 hb44)⟩, fun m2 h1 h2 => hno m2 (by omega) h2⟩, rfl⟩⟩)
  ·obtain rfl : n = p := by omega
   refine oS geF (oZ hK5 ?_); refine cF ?_; refine c_exit ?_; refine x_then_exit (x_then_exit (x_block_exit (xZ hK2 (cR fun _ hK9 => ?_)))); refine oA (oA (oZ hK9 (c_ret ?_))); refine ?_; refine x_sub (Sub.refl _) (H' := [(K.bM, mpO es2 c2)]) hzB ?_; exact x_ret rfl (.tmp rfl (.tmp rfl (.nil))) (⟨es2, c2, rfl, hes2, .inr ⟨fun m2 h1 h2 => hno m2 h1 h2, rfl⟩⟩)
set_option maxHeartbeats 2000000 in
theorem round_fn (K : AskE) (hK : K.ok) (x : Nd) (ks : F) (i i1 p q : Nat) (es : List Me) (c : Nat) (hp : Part K.re (.nd x ks .nil) i i1) (hpq : p ≤ q) (hq : q ≤ K.tx.length) (hes : MapOk K.tx K.re es) (r : Nat) (h6 : x.op = 6) (hrb : r ≤ 300) (hr : x.mx = -1 ∨ (r : Int) ≤ x.mx) (ihN : ∀ y js, ks = .nd y js .nil → NodeK Tryd.prog K y js) (ihR : ∀ n, p ≤ n → n ≤ q → (n ≠ p ∨ (r : Int) < x.mn ∨ r = 0) → (x.mx = -1 ∨ (r : Int) < x.mx) → RestK Tryd.prog K ⟨i, (nxtR x r : Nat), n, q⟩) : HL.Fn Tryd.prog 112 [pt K.bS, .agg (Ek (⟨i, r, p, q⟩ : Ky)).toArray] (fun W => Env W K [K.bM]) [(K.bM, mpO es c)] (KidP K (RQ x (der K.tx ks false) r p q) p q) := by
  refine fn_of Tryd.func112 rfl rfl rfl fun w0 hw => ?_
  have hsl := hw.d1.sl
  have hst := hw.d2.sl
  have hse := hw.d3.sl
  have htl := hK.tx
  have hrl := hK.len
  obtain rfl : i1 = i + 1 + ks.size := by have := hp.len; simp only [F.size] at this; omega
  obtain ⟨hx, hpk, _⟩ := hp.head
  have hilt := (List.getElem?_eq_some_iff.1 hx).1
  have hxm := List.mem_of_getElem? hx
  have hox := hK.rng x hxm
  have hx8 := hK.no8 x hxm
  have hok : ndOk x = true := hp.wf.1
  have hop : 1 ≤ x.op ∧ x.op ≤ 8 := (flds_iff.1 (by simp only [ndOk, Bool.and_eq_true] at hok; exact hok.1)).1
  have hpkl := hpk.le
  have hei := hK.ends.2 i x ks .nil _ (Nat.zero_le _) hp
  have hell := hK.ends.1
  rw [hell] at hse
  have hrg := rep_rng hok h6
  obtain ⟨y, js, hks⟩ := one_kid hp.wf (.inl h6)
  refine cR fun _ hK1 => ?_; refine o_box rfl rfl rfl fun b3 => ?_; refine oA (oA (oZ hK1 (c_seq fun _ hK2 => ?_))); refine c_drawE ([(b3, .cells (Ek (⟨i, r, p, q⟩ : Ky)).toArray 148 (0, 0))]) (fun i => false) ?_; refine eK 0 rfl sM ?_; refine eK 1 rfl sN ?_; refine eK 2 rfl sF ?_; refine eK 3 rfl (s_ld rfl ((RdPK.old hw.p4 hw.n4).cel (j := 0) rfl rfl)) ?_; refine eK 4 rfl sF ?_; refine eK 5 rfl (s_ld rfl ((.own meA rfl : Cel _ _ _ (.int .i64 (i : Int))))) ?_; refine eK 6 rfl (s_idx rfl rfl hsl (by omega)) ?_; refine eK 7 rfl (s_ldB rfl ((RdK.old hw.d1 hw.a1).lds i hx rfl) (by rfl)) ?_; refine eO 8 rfl ?_; refine o_alloc (l := En zN) (by rw [En_zero]; rfl) rfl fun b6 => ?_; refine oX (eO 9 rfl ?_); refine o_stW rfl rfl upA lnA lnA onA ?_; refine oX (eZ hK2 ?_); refine c_seqJ (ι := Unit) (fun g => x.mx = -1 ∨ (r : Int) < x.mx) (fun g => []) [(0, _), (3, _), (6, _)] (fun g => (b6, .cells (En x).toArray 80 (0, 0)) :: [(b3, .cells (Ek (⟨i, r, p, q⟩ : Ky)).toArray 148 (0, 0)), (K.bM, mpO es c)]) sbA ?_ ?_
  ·rintro _ hlt
   refine cR fun _ hK4 => ?_; refine oS sF ?_; refine oS (s_ld rfl ((.own meA rfl : Cel _ _ _ (.int .i64 (r : Int))))) ?_; refine oS sD (oA (oZ hK4 ?_)); refine c_seqJ (ι := Nat) (fun nx => nx = nxtR x r) (fun nx => [(7, .int .i64 nx)]) [(0, _), (3, _), (6, _)] (fun nx => (b6, .cells (En x).toArray 80 (0, 0)) :: [(b3, .cells (Ek (⟨i, r, p, q⟩ : Ky)).toArray 148 (0, 0)), (K.bM, mpO es c)]) sbA ?_ ?_
   ·rintro nx hnx
    refine c_seq fun _ hK6 => ?_; refine cR fun _ hK7 => ?_; refine oS sF ?_; refine oS (s_ld rfl ((.own meA rfl : Cel _ _ _ (.int .i64 (q : Int))))) ?_; refine oA (oZ hK7 (c_block ?_)); refine c_loop3 (fun (n : Nat) (es2 : List Me) (c2 : Nat) => p ≤ n ∧ n ≤ q + 1 ∧ (∀ m2, n ≤ m2 → m2 ≤ q → ¬ (RQ x (der K.tx ks false) r p q) m2) ∧ MapOk K.tx K.re es2) (fun (n : Nat) (es2 : List Me) (c2 : Nat) => [(8, .int .i64 ((n : Int) - 1))]) [(0, _), (3, _), (6, _), (7, _)] (fun (n : Nat) (es2 : List Me) (c2 : Nat) => (K.bM, mpO es2 c2) :: (b6, .cells (En x).toArray 80 (0, 0)) :: [(b3, .cells (Ek (⟨i, r, p, q⟩ : Ky)).toArray 148 (0, 0))]) (fun (n : Nat) (es2 : List Me) (c2 : Nat) => n) (q + 1) es c ⟨by omega, by omega, fun m2 h1 h2 => absurd h1 (by omega), hes⟩ (by exact Sub.cons' rfl (by congr 1; omega) sbA) sbA hzB ?_
    rintro n es2 c2 ⟨hn1, hn2, hno, hes2⟩
    refine c_seq fun _ hK8 => ?_; refine cR fun _ hK9 => ?_; refine oM ?_; refine oS sF ?_; refine oS (s_ld rfl ((.own meA rfl : Cel _ _ _ (.int .i64 (p : Int))))) ?_
    by_cases hnp : (n : Int) - 1 ≥ p
    ·obtain ⟨a, rfl⟩ : ∃ a, n = a + 1 := ⟨n - 1, by omega⟩
     refine oS geT (oZ hK9 ?_); refine cTZ hK8 (c_seq fun _ hK10 => ?_); refine c_block ?_; refine c_seqJ (ι := Unit) (fun g => a ≠ p ∨ (r : Int) < x.mn ∨ r = 0) (fun g => []) [(0, _), (3, _), (6, _), (7, _), (8, _), (40, _), (41, _), (42, _), (43, _)] (fun g => (K.bM, mpO es2 c2) :: (b6, .cells (En x).toArray 80 (0, 0)) :: [(b3, .cells (Ek (⟨i, r, p, q⟩ : Ky)).toArray 148 (0, 0))]) sbA ?_ ?_
     ·rintro _ hst
      refine c_seq fun _ hK12 => ?_; refine c_drawE ([(b6, .cells (En x).toArray 80 (0, 0)), (b3, .cells (Ek (⟨i, r, p, q⟩ : Ky)).toArray 148 (0, 0))]) (fun i => false) ?_; refine eK 0 rfl sM ?_; refine eK 1 rfl sN ?_; refine eK 2 rfl sF ?_; refine eK 3 rfl (s_ld rfl ((RdPK.old hw.p4 hw.n4).cel (j := 4) rfl rfl)) ?_; refine eK 4 rfl sF ?_; refine eK 5 rfl (s_ld rfl ((.own meA rfl : Cel _ _ _ (.int .i64 (i : Int))))) ?_; refine eK 6 rfl sD ?_; refine eK 7 rfl sF ?_; refine eK 8 rfl (s_ld rfl ((.own meA rfl : Cel _ _ _ (.int .i64 (p : Int))))) ?_; refine eK 9 rfl (step_cast (v' := .int .i64 (a : Int)) (s_move rfl) (congrArg (Value.int .i64) (by omega))) ?_; refine eO 10 rfl ?_; refine o_callC (us := []) (vs := [_, _, _]) (cs := [pt K.bRe, pt K.bTx, pt K.bA]) (ihN y js hks (i + 1) _ p a es2 c2 (hks ▸ hpk) (by omega) (by omega) hes2) rfl rfl rfl pkA (fun w st => hw.out st (fun _ h => h)) (fun v72 S72 ⟨es72, c72, hv72, hS72, hm72⟩ => ?_)
      subst hv72; subst hS72
      cases hb72 : dQ (der1 K.tx y js p a)
      ·have hno2 : ¬ (RQ x (der K.tx ks false) r p q) a := fun h => by have h3 := h.2.2.1; rw [hks, der_one] at h3; rw [dQ_t h3] at hb72; cases hb72
       refine oX ?_; refine eK 11 rfl sM ?_; refine eS 12 rfl (eS 13 rfl (eS 14 rfl (eS 15 rfl (eS 16 rfl (eS 17 rfl (eS 18 rfl (eS 19 rfl (eS 20 rfl (eS 21 rfl (eS 22 rfl (eO 23 rfl ?_))))))))))); refine oN (oX ?_); refine eK 24 rfl sP (eZ hK12 ?_); refine cF (c_skip (x_block (xZ hK10 (c_region (oM ?_))))); refine oS sU (oA (o_nil ?_)); exact x_then (x_inv (a, es72, c72) ⟨by omega, by omega, fun m2 h1 h2 => if e : m2 = a then by subst e; exact hno2 else hno m2 (by omega) h2, hm72⟩ (by first | omega | (dsimp only; omega)) (by exact Sub.cons' rfl (by congr 1; omega) sbA) hzB)
      ·refine oX ?_; refine eK 11 rfl sM ?_; refine eG 12 rfl sM ?_; refine eG 13 rfl sN ?_; refine eG 14 rfl sF ?_; refine eG 15 rfl (s_ld rfl ((RdPK.old hw.p4 hw.n4).cel (j := 5) rfl rfl)) ?_; refine eG 16 rfl sF ?_; refine eG 17 rfl (s_ld rfl ((.own meA rfl : Cel _ _ _ (.int .i64 (i : Int))))) ?_; refine eG 18 rfl sM ?_; refine eG 19 rfl (step_cast (v' := .int .i64 (a : Int)) (s_move rfl) (congrArg (Value.int .i64) (by omega))) ?_; refine eG 20 rfl sF ?_; refine eG 21 rfl (s_ld rfl ((.own meA rfl : Cel _ _ _ (.int .i64 (q : Int))))) ?_; refine eG 22 rfl (s_build (cs := [_, _, _, _]) (vs := [_, _, _, _]) rfl rfl (.cons rfl rfl rfl rfl rfl (.cons rfl rfl rfl rfl rfl (.cons rfl rfl rfl rfl rfl (.cons rfl rfl rfl rfl rfl (.nil)))))) ?_; refine eO 23 rfl ?_; refine oY ?_; subst hnx
       refine o_callC (us := []) (vs := [_]) (cs := [pt K.bA]) (ihR a (by omega) (by omega) (by omega) (by omega) es72 c72 hm72) rfl rfl rfl pkA (fun w st => hw.out st (fun _ h => h)) (fun v85 S85 ⟨es85, c85, hv85, hS85, hm85⟩ => ?_); subst hv85
       subst hS85
       cases hb85 : dQ (Qry K.tx K.re ⟨i, (nxtR x r : Nat), a, q⟩)
       ·have hno2 : ¬ (RQ x (der K.tx ks false) r p q) a := fun h => by rw [dQ_t ((Qry_rep hp h6).2 ((RR_nxt (by omega)).2 h.2.2.2))] at hb85; cases hb85
        refine oX ?_; refine eK 24 rfl sT (eZ hK12 ?_); refine cF (c_skip (x_block (xZ hK10 (c_region (oM ?_))))); refine oS sU (oA (o_nil ?_)); exact x_then (x_inv (a, es85, c85) ⟨by omega, by omega, fun m2 h1 h2 => if e : m2 = a then by subst e; exact hno2 else hno m2 (by omega) h2, hm85⟩ (by first | omega | (dsimp only; omega)) (by exact Sub.cons' rfl (by congr 1; omega) sbA) hzB)
       ·refine oX ?_; refine eK 24 rfl sT (eZ hK12 ?_); refine cT (cR fun _ hK13 => ?_); refine oS (step_cast (v' := .int .i64 (a : Int)) (s_move rfl) (congrArg (Value.int .i64) (by omega))) ?_; refine oA (oA (oZ hK13 (c_ret ?_))); refine x_block_ret (x_then_ret (x_then_ret (x_block_ret (x_then_ret (?_)))))
        refine x_sub (Sub.refl _) (H' := [(K.bM, mpO es85 c85)]) hzB ?_; exact x_ret rfl (.tmp rfl (.tmp rfl (.nil))) (⟨es85, c85, rfl, hm85, .inl ⟨a, ⟨by omega, by omega, ⟨hlt, hst, by rw [hks, der_one]; exact dQ_iff.1 hb72, (RR_nxt (by omega)).1 ((Qry_rep hp h6).1 (dQ_iff.1 hb85))⟩, fun m2 h1 h2 => hno m2 (by omega) h2⟩, rfl⟩⟩)
     ·intro _ hJ11
      refine cR fun _ hK14 => ?_; refine oS (step_cast (v' := .int .i64 (a : Int)) (s_move rfl) (congrArg (Value.int .i64) (by omega))) ?_; refine oS sF ?_; refine oS (s_ld rfl ((.own meA rfl : Cel _ _ _ (.int .i64 (p : Int))))) ?_
      by_cases hap : (a : Int) = p
      ·refine oS eqT (oM ?_); refine oY ?_; refine oS sF ?_; refine oY ?_; refine oS (s_ld rfl ((.own meA rfl : Cel _ _ _ (.int .i64 (r : Int))))) ?_; refine oY ?_; refine oS sF ?_; refine oY ?_; refine oS sL ?_; refine oY ?_
       by_cases hge : (r : Int) ≥ x.mn
       ·refine oS geT ?_; refine oS sT (oM ?_); refine oY ?_; refine oS sF ?_; refine oY ?_; refine oS (s_ld rfl ((.own meA rfl : Cel _ _ _ (.int .i64 (r : Int))))) ?_; refine oY ?_
        by_cases hr0 : (r : Int) > 0
        ·refine oS gtT ?_; refine oS sT (oZ hK14 ?_); refine cT ?_; refine c_exit ?_; refine x_then_exit ?_; refine x_block_pass rfl ?_; refine x_then_exit (x_then_exit (x_block_exit (xZ hK6 (cR fun _ hK15 => ?_)))); refine oA (oA (oZ hK15 (c_ret ?_))); refine ?_; refine x_sub (Sub.refl _) (H' := [(K.bM, mpO es2 c2)]) hzB ?_; exact x_ret rfl (.tmp rfl (.tmp rfl (.nil))) (⟨es2, c2, rfl, hes2, .inr ⟨fun m2 h1 h2 h => if e : m2 = a then by have := h.2.1; omega else hno m2 (by omega) h2 h, rfl⟩⟩)
        ·refine oS gtF ?_; refine oS sT (oZ hK14 ?_); refine cF (c_skip ?_); exact x_then (hJ11 () _ _ (by omega) sbA sbA hzB)
       ·refine oS geF ?_; refine oS sT (oM ?_); refine oN ?_; refine oN ?_; refine oN ?_; refine oS sP (oZ hK14 ?_); refine cF (c_skip ?_); exact x_then (hJ11 () _ _ (by omega) sbA sbA hzB)
      ·refine oS eqF (oM ?_); refine oN ?_; refine oN ?_; refine oN ?_; refine oN ?_; refine oN ?_; refine oS sP (oM ?_); refine oN ?_; refine oN ?_; refine oN ?_; refine oS sP (oZ hK14 ?_); refine cF (c_skip ?_); exact x_then (hJ11 () _ _ (by omega) sbA sbA hzB)
    ·obtain rfl : n = p := by omega
     refine oS geF (oZ hK9 ?_); refine cF ?_; refine c_exit ?_; refine x_then_exit (x_then_exit (x_block_exit (xZ hK6 (cR fun _ hK16 => ?_)))); refine oA (oA (oZ hK16 (c_ret ?_))); refine ?_; refine x_sub (Sub.refl _) (H' := [(K.bM, mpO es2 c2)]) hzB ?_; exact x_ret rfl (.tmp rfl (.tmp rfl (.nil))) (⟨es2, c2, rfl, hes2, .inr ⟨fun m2 h1 h2 => hno m2 h1 h2, rfl⟩⟩)
   ·intro _ hJ5
    refine cR fun _ hK17 => ?_; refine oS sF ?_; refine oS sL ?_
    by_cases hml : x.mx < 0
    ·refine oS lsT (oZ hK17 ?_); refine cT (c_region (oM ?_)); refine oS sF ?_; refine oS sL ?_; refine oS (s_max rfl rfl) ?_; refine oS (step_cast (v' := .int .i64 (nxtR x r : Nat)) (s_min rfl rfl) (congrArg (Value.int .i64) (by rw [nxtR, if_pos hml]; omega))) ?_; refine oA (o_nil ?_); exact x_then (hJ5 (nxtR x r) _ _ rfl sbA sbA hzB)
    ·refine oS lsF (oZ hK17 ?_); refine cF (c_skip ?_); exact x_then (hJ5 (r + 1) _ _ (by rw [nxtR, if_neg (by omega)]) sbA sbA hzB)
  ·intro _ hJ3
   refine cR fun _ hK18 => ?_; refine oS sF ?_; refine oS sL ?_
   by_cases hm0 : x.mx ≥ 0
   ·refine oS geT (oM ?_); refine oY ?_; refine oS sF ?_; refine oY ?_; refine oS (s_ld rfl ((.own meA rfl : Cel _ _ _ (.int .i64 (r : Int))))) ?_; refine oY ?_; refine oS sF ?_; refine oY ?_; refine oS sL ?_; refine oY ?_
    by_cases hrm : (r : Int) = x.mx
    ·refine oS eqT ?_; refine oS sT (oZ hK18 ?_); refine cT (cR fun _ hK19 => ?_); refine oA (oA (oZ hK19 (c_ret ?_))); refine x_then_ret (?_); refine x_sub (Sub.refl _) (H' := [(K.bM, mpO es c)]) hzB ?_; exact x_ret rfl (.tmp rfl (.tmp rfl (.nil))) (⟨es, c, rfl, hes, .inr ⟨fun m2 h1 h2 h => by have := h.1; omega, rfl⟩⟩)
    ·refine oS eqF ?_; refine oS sT (oZ hK18 ?_); refine cF (c_skip ?_); exact x_then (hJ3 () _ _ (by omega) sbA sbA hzB)
   ·refine oS geF (oM ?_); refine oN ?_; refine oN ?_; refine oN ?_; refine oN ?_; refine oN ?_; refine oS sP (oZ hK18 ?_); refine cF (c_skip ?_); exact x_then (hJ3 () _ _ (by omega) sbA sbA hzB)
end Go.Proofs.YtloepfcndglmmaaDoor
