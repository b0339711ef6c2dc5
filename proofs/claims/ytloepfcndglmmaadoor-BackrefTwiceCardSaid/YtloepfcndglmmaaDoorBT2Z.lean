/- The tally's account of all spans of a text. Conditions: none. -/
import Derived.Test.YtloepfcndglmmaaDoorVZB7Z
import Derived.Test.YtloepfcndglmmaaDoorVZB3Z
import Derived.Test.YtloepfcndglmmaaDoorVZN1Z
import Derived.Test.YtloepfcndglmmaaDoorMK2Z
import Derived.Test.YtloepfcndglmmaaDoorHTZ
import Derived.Test.YtloepfcndglmmaaDoorVZN4Z
import Derived.Test.YtloepfcndglmmaaDoorMOZ
import Derived.Test.YtloepfcndglmmaaDoorBS7Z
import Derived.Test.YtloepfcndglmmaaDoorHM2Z
namespace Go.HL.Kl.Mc
open Go Go.HL Go.HL.Kl AskE
def LAcc (n : Nat) (x : Nd) (ks : F) (c : Caps) (ps : List (Nat × Nat)) (T : Int) : Prop := ∃ cost : Nat → Nat → Nat, (∀ p ∈ ps, ∃ Z, Ct n (.node x ks p.1 p.2 c) Z (cost p.1 p.2)) ∧ (((ps.map fun p => cost p.1 p.2).sum : Nat) : Int) ≤ 3 * T
theorem LAcc.nil {n : Nat} {x : Nd} {ks : F} {c : Caps} {T : Int} (h : 0 ≤ T) : LAcc n x ks c [] T := ⟨fun _ _ => 0, fun p h => (by cases h), by simp; omega⟩
theorem LAcc.snoc {n : Nat} {x : Nd} {ks : F} {c : Caps} {ps : List (Nat × Nat)} {T t : Int} (h : LAcc n x ks c ps T) {i j : Nat} {Z : List Caps} (hc : NodeC' n x ks i j c Z t) : LAcc n x ks c (ps ++ [(i, j)]) (T + t) := by
  obtain ⟨cost, h1, h2⟩ := h
  obtain ⟨k, c1, c2⟩ := hc
  by_cases hm : (i, j) ∈ ps ∧ cost i j ≤ k
  · refine ⟨cost, fun p hp => ?_, ?_⟩
    · rcases List.mem_append.1 hp with hp | hp
      · exact h1 p hp
      · obtain rfl := List.mem_singleton.1 hp; exact h1 _ hm.1
    · rw [List.map_append, List.sum_append]
      simp only [List.map_cons, List.map_nil, List.sum_cons, List.sum_nil]
      omega
  · refine ⟨fun a b => if a = i ∧ b = j then k else cost a b, fun p hp => ?_, ?_⟩
    · by_cases e : p.1 = i ∧ p.2 = j
      · refine ⟨Z, ?_⟩
        simp only [if_pos e]
        rw [e.1, e.2]; exact c1
      · simp only [if_neg e]
        exact h1 p ((List.mem_append.1 hp).resolve_right fun h => e (by obtain rfl := List.mem_singleton.1 h; exact ⟨rfl, rfl⟩))
    · rw [List.map_append, List.sum_append]
      simp only [List.map_cons, List.map_nil, List.sum_cons, List.sum_nil, and_self, if_true]
      have hs : (ps.map fun p => if p.1 = i ∧ p.2 = j then k else cost p.1 p.2).sum ≤ (ps.map fun p => cost p.1 p.2).sum := sum_le fun p hp => by
        by_cases e : p.1 = i ∧ p.2 = j
        · rw [if_pos e, e.1, e.2]
          have : ¬ cost i j ≤ k := fun h => hm ⟨by rw [← e.1, ← e.2]; exact hp, h⟩
          omega
        · rw [if_neg e]; exact Nat.le_refl _
      omega
theorem LAcc.mono {n : Nat} {x : Nd} {ks : F} {c : Caps} {ps : List (Nat × Nat)} {T T' : Int} (h : LAcc n x ks c ps T) (ht : T ≤ T') : LAcc n x ks c ps T' := by
  obtain ⟨cost, h1, h2⟩ := h
  exact ⟨cost, h1, by omega⟩
def rowP (n i : Nat) (es : List Nat) : List (Nat × Nat) := es.map fun j => (i, j)
def prs (n p : Nat) : List (Nat × Nat) := (List.range p).flatMap fun i => rowP n i (ends i n)
theorem prs_succ {n p : Nat} : prs n (p + 1) = prs n p ++ rowP n p (ends p n) := by simp [prs, List.range_succ, List.flatMap_append]
theorem rowP_snoc {n p j : Nat} (h : j ≤ n) : rowP n p (ends j n) = rowP n p (ends (j + 1) n) ++ [(p, j)] := by unfold rowP; rw [ends_snoc h, List.map_append]; rfl
theorem rowP_none {n p : Nat} : rowP n p (ends (n + 1) n) = [] := by unfold rowP; rw [ends_none]; rfl
theorem mem_prs {n p i j : Nat} (h1 : i < p) (h2 : i ≤ j) (h3 : j ≤ n) : (i, j) ∈ prs n p := by
  unfold prs
  rw [List.mem_flatMap]
  exact ⟨i, List.mem_range.2 h1, List.mem_map.2 ⟨j, mem_ends.2 ⟨h2, h3⟩, rfl⟩⟩
def BehU (re : List Nd) (bl : List Nat) (a b : Nat) : Prop := ∀ k y js r e, a ≤ k → k < b → Part re (.nd y js r) k e → bl[k]? = some (k + 1 + js.size)
theorem BehU.nil {re : List Nd} {bl : List Nat} {a : Nat} : BehU re bl a a := fun k _ _ _ _ h1 h2 => by omega
theorem BehU.cat {re : List Nd} {bl bl' : List Nat} {a b c : Nat} (h : BehU re bl a b) (hb : ∀ k, k < b → bl'[k]? = bl[k]?) (h' : BehU re bl' b c) : BehU re bl' a c := fun k y js r e h1 h2 hp => by
  by_cases hk : k < b
  · rw [hb k hk]; exact h k y js r e h1 hk hp
  · exact h' k y js r e (by omega) h2 hp
theorem BehU.top {re : List Nd} {bl : List Nat} {x : Nd} {ks : F} {at_ e : Nat} (hp : Part re (.nd x ks .nil) at_ e) (h : BehU re bl (at_ + 1) e) (hl : at_ < bl.length) (he : e = at_ + 1 + ks.size) : BehU re (bl.set at_ e) at_ e := fun k y js r e' h1 h2 hp' => by
  by_cases hk : k = at_
  · subst hk
    have hu : js = ks := by
      obtain ⟨h3, _, _⟩ := hp.head
      obtain ⟨h4, _, _⟩ := hp'.head
      rw [h3] at h4
      cases h4
      exact hp'.uniq hp
    rw [List.getElem?_set_self hl, hu, he]
  · rw [List.getElem?_set_ne (by omega)]
    exact h k y js r e' (by omega) h2 hp'
def rsum (cost : Nat → Nat → Nat) (n : Nat) : Nat → Nat
  | 0 => 0
  | m + 1 => ((ends (n - m) n).map (cost (n - m))).sum + rsum cost n m
theorem rsum_prs {cost : Nat → Nat → Nat} {n : Nat} : ∀ m, m ≤ n + 1 → ((prs n (n + 1 - m)).map fun p => cost p.1 p.2).sum + rsum cost n m = ((prs n (n + 1)).map fun p => cost p.1 p.2).sum
  | 0, _ => by simp [rsum]
  | m + 1, hm => by
    have ih := rsum_prs (cost := cost) (n := n) m (by omega)
    have e : n + 1 - m = (n - m) + 1 := by omega
    rw [e, prs_succ, List.map_append, List.sum_append] at ih
    have e2 : ((rowP n (n - m) (ends (n - m) n)).map fun p => cost p.1 p.2).sum = ((ends (n - m) n).map (cost (n - m))).sum := by
      unfold rowP; rw [List.map_map]; rfl
    rw [e2] at ih
    rw [rsum, show n + 1 - (m + 1) = n - m by omega]
    omega
theorem rsum_le {cost : Nat → Nat → Nat} {n m : Nat} (h : m ≤ n + 1) : rsum cost n m ≤ ((prs n (n + 1)).map fun p => cost p.1 p.2).sum := by
  have := rsum_prs (cost := cost) m h; omega
end Go.HL.Kl.Mc
namespace Go.Proofs.YtloepfcndglmmaaDoor
open Go Go.HL Go.Proofs Go.HL.Kl Go.HL.Kl.Mc Go.HL.Kl.Mc.AskE
theorem groups_fn (ra : Option Addr) (rc : Nat) (re : List Nd) (hre : ∀ x ∈ re, -128 ≤ x.op ∧ x.op < 128) : HL.Fn Tryd.prog 25 [.slice ra re.length rc] (fun w => Rd En w (.slice ra re.length rc) re) [] (fun v _ => v = .int .i64 ((if shapedB re = true then gcn re else 0 : Nat) : Int)) := by
  refine fn_of Tryd.func25 rfl rfl rfl fun w0 hw => ?_
  have hsl := hw.sl
  have hbl := hsl.le
  refine cR fun _ hK1 => ?_; refine oA (oZ hK1 (cR fun _ hK2 => ?_)); refine oA (oZ hK2 (c_seq fun _ hK3 => ?_)); refine cR fun _ hK4 => ?_; refine oM ?_; refine o_callP (shaped_fn ra rc re hre) rfl rfl rfl (fun w st => (RdK.old0 hw).out w st) (fun v7 hv7 => ?_); subst hv7
  cases hsb : shapedB re
  ·refine oZ hK4 ?_; refine cFZ hK3 (cR fun _ hK5 => ?_); refine oM (oA (oZ hK5 (c_ret ?_))); refine ?_; exact xR rfl rfl ((by rw [hsb]; rfl))
  ·refine oZ hK4 ?_; refine cT (cR fun _ hK6 => ?_); refine oM ?_; refine oS sC (oM (oZ hK6 (c_block ?_))); refine c_loopB (fun (j : Nat) => j ≤ re.length) (fun (j : Nat) => [(10, .int .i64 j), (3, .int .i64 (gcn (re.take j) : Nat))]) [(2, _), (8, _), (9, _)] (fun (j : Nat) => _) (fun (j : Nat) => re.length - j) 0 (Nat.zero_le _) sbA sbA hzB ?_
   rintro j hj
   refine cR fun _ hK7 => ?_
   by_cases hjl : j < re.length
   ·obtain ⟨x, hx⟩ : ∃ x, re[j]? = some x := ⟨_, List.getElem?_eq_getElem hjl⟩
    have hxo := hre x (List.mem_of_getElem? hx)
    have hgl : gcn (re.take j) ≤ j := by have h1 := List.countP_le_length (p := fun x => decide (x.op = 7)) (l := re.take j); rw [List.length_take] at h1; unfold gcn; omega
    refine oS lsT (oZ hK7 (c_seq fun _ hK8 => ?_)); refine cTZ hK8 (c_seq fun _ hK9 => ?_); refine c_block (cR fun _ hK10 => ?_); refine oS (s_idx rfl rfl hsl (by omega)) ?_; refine oS (s_ldB rfl ((RdK.old0 hw).lds j hx rfl) (by rfl)) ?_; refine o_alloc (l := En zN) (by rw [En_zero]; rfl) rfl fun b5 => ?_; refine o_stW rfl rfl upA lnA lnA onA ?_; refine oZ hK10 (cR fun _ hK11 => ?_); refine oS sF ?_; refine oS sL ?_
    by_cases h7 : x.op = 7
    ·refine oS (eqT (h := h7)) ?_; refine oZ hK11 ?_; refine cT (c_region (oM ?_)); refine oS sD (oA (o_nil (x_block (xZ hK9 (c_region ?_))))); refine oS sD (oM (o_nil ?_)); exact x_then (x_inv (j + 1) (by omega) (by first | omega | (dsimp only; omega)) (by exact Sub.cons rfl (Sub.cons' rfl (by rw [gcn_take hx, if_pos h7]; rfl) sbA)) hzB)
    ·refine oS (eqF (h := h7)) ?_; refine oZ hK11 ?_; refine cF (c_skip (x_block (xZ hK9 (c_region ?_)))); refine oS sD (oM (o_nil ?_)); exact x_then (x_inv (j + 1) (by omega) (by first | omega | (dsimp only; omega)) (by exact Sub.cons rfl (Sub.cons' rfl (by rw [gcn_take hx, if_neg h7]; rfl) sbA)) hzB)
   ·obtain rfl : j = re.length := by omega
    refine oS lsF (oZ hK7 (c_seq fun _ hK12 => ?_)); refine cF ?_; refine c_exit ?_; refine x_then_exit (x_then_exit (x_block_exit (xZ hK3 (cR fun _ hK13 => ?_)))); refine oM (oA (oZ hK13 (c_ret ?_))); refine ?_; exact xR rfl rfl ((by rw [hsb, List.take_length]; rfl))
theorem rep_set {α : Type} {i m : Nat} {a b : α} : (List.replicate i a ++ List.replicate (m + 1) b).set i a = List.replicate (i + 1) a ++ List.replicate m b := by
  rw [List.set_append, if_neg (by simp), List.length_replicate, Nat.sub_self, List.replicate_succ, List.set_cons_zero, List.replicate_succ', List.append_assoc]; rfl
structure RefI (re : List Nd) (q : Nat) (R : List Nat) (es : List Bool) : Prop where
  iff : ∀ n, n ∈ R ↔ es[n]? = some true
  got : ∀ k x, k < q → re[k]? = some x → x.op = 8 → x.n.toNat ∈ R
  len : R.length ≤ q
theorem RefI.nil {re : List Nd} {n : Nat} : RefI re 0 [] (List.replicate n false) := ⟨fun m => ⟨fun h => (by cases h), fun h => by have := List.mem_of_getElem? h; rw [List.mem_replicate] at this; cases this.2⟩, fun _ _ h => absurd h (Nat.not_lt_zero _), Nat.le_refl _⟩
theorem RefI.yes {re : List Nd} {q : Nat} {R : List Nat} {es : List Bool} (h : RefI re q R es) {x : Nd} (hx : re[q]? = some x) (_o8 : x.op = 8) (hn : x.n.toNat < es.length) : RefI re (q + 1) (R ++ [x.n.toNat]) (es.set x.n.toNat true) :=
  ⟨fun m => by
    by_cases e : m = x.n.toNat
    · subst e; simp [hn]
    · rw [List.getElem?_set_ne (Ne.symm e), ← h.iff m]; simp [e], fun k y hk hy h8 => by
    by_cases e : k = q
    · subst e; rw [hx] at hy; cases hy; simp
    · exact List.mem_append_left _ (h.got k y (by omega) hy h8), by rw [List.length_append, List.length_singleton]; have := h.len; omega⟩
theorem RefI.old {re : List Nd} {q : Nat} {R : List Nat} {es : List Bool} (h : RefI re q R es) {x : Nd} (hx : re[q]? = some x) {z : Bool} (hz : es[x.n.toNat]? = some z) (hf : ¬ z = false) : RefI re (q + 1) R es :=
  ⟨h.iff, fun k y hk hy h8 => by
    by_cases e : k = q
    · subst e; rw [hx] at hy; cases hy; exact (h.iff _).2 (by rw [hz]; simpa using hf)
    · exact h.got k y (by omega) hy h8, by have := h.len; omega⟩
theorem RefI.no {re : List Nd} {q : Nat} {R : List Nat} {es : List Bool} (h : RefI re q R es) {x : Nd} (hx : re[q]? = some x) (h8 : ¬ x.op = 8) : RefI re (q + 1) R es :=
  ⟨h.iff, fun k y hk hy h8' => by
    by_cases e : k = q
    · subst e; rw [hx] at hy; cases hy; exact absurd h8' h8
    · exact h.got k y (by omega) hy h8', by have := h.len; omega⟩
theorem RefI.all {re : List Nd} {R : List Nat} {es : List Bool} (h : RefI re re.length R es) {x : Nd} (hx : x ∈ re) (h8 : x.op = 8) : x.n.toNat ∈ R := by
  obtain ⟨k, hk⟩ := List.mem_iff_getElem?.1 hx
  exact h.got k x (List.getElem?_eq_some_iff.1 hk).1 hk h8
theorem RefI.le {re : List Nd} {q N : Nat} {R : List Nat} {es : List Bool} (h : RefI re q R es) (hl : es.length = N + 1) : ∀ r ∈ R, r ≤ N := fun r hr => by
  have := (List.getElem?_eq_some_iff.1 ((h.iff r).1 hr)).1
  omega
structure MsE where
  (bS : Nat) (ra : Option Addr) (rc : Nat) (re : List Nd) (ba : Option Addr) (bc : Nat) (v1 v3 v4 v5 v6 v7 v8 v9 v10 : Value)
def MsE.Meas (K : MsE) (L : Nat) : Prop := ∀ (x : Nd) (ks : F) (at_ e : Nat) (bl : List Nat) (Sb : Hp), ks.size < L → Part K.re (.nd x ks .nil) at_ e → bl.length = K.re.length → OwnS Eix 1 3 (.slice K.ba K.re.length K.bc) bl Sb →
  HL.Fn Tryd.prog 82 [pt K.bS, .int .i64 at_] (fun W => Rd En W (.slice K.ra K.re.length K.rc) K.re ∧ Apart (keys ((K.bS, .cells [.slice K.ra K.re.length K.rc, K.v1, .slice K.ba K.re.length K.bc, K.v3, K.v4, K.v5, K.v6, K.v7, K.v8, K.v9, K.v10].toArray 103 (0, 0)) :: Sb)) (.slice K.ra K.re.length K.rc)) ((K.bS, .cells [.slice K.ra K.re.length K.rc, K.v1, .slice K.ba K.re.length K.bc, K.v3, K.v4, K.v5, K.v6, K.v7, K.v8, K.v9, K.v10].toArray 103 (0, 0)) :: Sb)
    (fun v S' => ∃ bl' Sb', v = .int .i64 (e : Nat) ∧ S' = (K.bS, .cells [.slice K.ra K.re.length K.rc, K.v1, .slice K.ba K.re.length K.bc, K.v3, K.v4, K.v5, K.v6, K.v7, K.v8, K.v9, K.v10].toArray 103 (0, 0)) :: Sb' ∧ OwnS Eix 1 3 (.slice K.ba K.re.length K.bc) bl' Sb' ∧ bl'.length = K.re.length ∧ (∀ k, k < at_ → bl'[k]? = bl[k]?) ∧ BehU K.re bl' at_ e)
set_option maxHeartbeats 2000000 in
theorem measure_step (K : MsE) (hrl : K.re.length ≤ 1000000) (L : Nat) (ih : K.Meas L) (x : Nd) (ks : F) (at_ e : Nat) (bl : List Nat) (Sb : Hp) (hks : ks.size ≤ L) (hp : Part K.re (.nd x ks .nil) at_ e) (hbl : bl.length = K.re.length) (hO : OwnS Eix 1 3 (.slice K.ba K.re.length K.bc) bl Sb) : HL.Fn Tryd.prog 82 [pt K.bS, .int .i64 at_] (fun W => Rd En W (.slice K.ra K.re.length K.rc) K.re ∧ Apart (keys ((K.bS, .cells [.slice K.ra K.re.length K.rc, K.v1, .slice K.ba K.re.length K.bc, K.v3, K.v4, K.v5, K.v6, K.v7, K.v8, K.v9, K.v10].toArray 103 (0, 0)) :: Sb)) (.slice K.ra K.re.length K.rc)) ((K.bS, .cells [.slice K.ra K.re.length K.rc, K.v1, .slice K.ba K.re.length K.bc, K.v3, K.v4, K.v5, K.v6, K.v7, K.v8, K.v9, K.v10].toArray 103 (0, 0)) :: Sb) (fun v S' => ∃ bl' Sb', v = .int .i64 (e : Nat) ∧ S' = (K.bS, .cells [.slice K.ra K.re.length K.rc, K.v1, .slice K.ba K.re.length K.bc, K.v3, K.v4, K.v5, K.v6, K.v7, K.v8, K.v9, K.v10].toArray 103 (0, 0)) :: Sb' ∧ OwnS Eix 1 3 (.slice K.ba K.re.length K.bc) bl' Sb' ∧ bl'.length = K.re.length ∧ (∀ k, k < at_ → bl'[k]? = bl[k]?) ∧ BehU K.re bl' at_ e) := by
  refine fn_of Tryd.func82 rfl rfl rfl fun w0 hw => ?_
  have hsl := hw.1.sl
  have hx := hp.head.1
  have hel := hp.le
  have he := hp.len
  simp only [F.size, Nat.add_zero] at he
  have hkn := hp.wf.2.1
  have hksn := ks.num_le
  have hlt := (List.getElem?_eq_some_iff.1 hx).1
  refine cR fun _ hK1 => ?_; refine oA (oZ hK1 (cR fun _ hK2 => ?_)); refine oM ?_; refine oS sD (oA (oZ hK2 (c_seq fun _ hK3 => ?_))); refine cR fun _ hK4 => ?_; refine oM ?_; refine oS sN ?_; refine oS sF ?_; refine oS sL (oM ?_); refine oS (s_idx rfl rfl hsl (by omega)) ?_; refine oS sF ?_; refine oS (s_ld rfl ((RdK.old hw.1 hw.2).ld at_ 8 hx rfl (by decide) (by omega))) ?_; refine oM (oZ hK4 ?_)
  refine c_block ?_; refine c_loop5 (fun (m : Nat) (kid : Nat) (g : F) (bl2 : List Nat) (Sb2 : Hp) => Part K.re g kid e ∧ (m : Int) + g.num = x.kids ∧ g.size ≤ ks.size ∧ OwnS Eix 1 3 (.slice K.ba K.re.length K.bc) bl2 Sb2 ∧ bl2.length = K.re.length ∧ (∀ k, k < at_ → bl2[k]? = bl[k]?) ∧ BehU K.re bl2 (at_ + 1) kid ∧ at_ + 1 ≤ kid) (fun (m : Nat) (kid : Nat) (g : F) (bl2 : List Nat) (Sb2 : Hp) => [(16, .int .i64 m), (5, .int .i64 kid)]) [(0, _), (1, _), (4, _), (15, _)] (fun (m : Nat) (kid : Nat) (g : F) (bl2 : List Nat) (Sb2 : Hp) => (K.bS, .cells [.slice K.ra K.re.length K.rc, K.v1, .slice K.ba K.re.length K.bc, K.v3, K.v4, K.v5, K.v6, K.v7, K.v8, K.v9, K.v10].toArray 103 (0, 0)) :: Sb2) (fun (m : Nat) (kid : Nat) (g : F) (bl2 : List Nat) (Sb2 : Hp) => g.num) 0 (at_ + 1) ks bl Sb ⟨by have := hp.head.2.1; rw [show at_ + 1 + ks.size = e by omega] at this; exact this, by omega, Nat.le_refl _, hO, hbl, fun _ _ => rfl, .nil, Nat.le_refl _⟩ sbA sbA hzB ?_
  rintro m kid g bl2 Sb2 ⟨hpg, hmg, hgs, hO2, hbl2, hfr, hB, hak⟩
  have hgn := g.num_le
  have hgl := hpg.len
  refine cR fun _ hK5 => ?_
  by_cases hmk : (m : Int) < x.kids
  ·obtain ⟨y, js, r, rfl⟩ : ∃ y js r, g = F.nd y js r := by cases g with | nil => simp only [F.num] at hmg; omega | nd y a c => exact ⟨y, a, c, rfl⟩
   simp only [F.num] at hmg
   simp only [F.size] at hgs hgl
   refine oS lsT (oZ hK5 (c_seq fun _ hK6 => ?_)); refine cTZ hK6 (c_seq fun _ hK7 => ?_); refine c_block (c_region (oM (oM ?_))); refine o_call (ih y js kid (kid + 1 + js.size) bl2 Sb2 (by omega) hpg.one hbl2 hO2) rfl rfl rfl pkA (fun w st => ⟨(RdK.old hw.1 hw.2).out w st, st.apart_M (hin_cons meA hiA) hw.1 hw.2 (by decide)⟩) (fun v20 S20 ⟨bl', Sb', hv20, hS20, hO', hbl', hfr', hB'⟩ => ?_); subst hv20
   subst hS20; refine oA (o_nil (x_block (xZ hK7 (c_region ?_)))); refine oS sD (oM (o_nil ?_)); exact x_then (x_inv (m + 1, kid + 1 + js.size, r, bl', Sb') ⟨hpg.head.2.2, by dsimp only; omega, by dsimp only; omega, hO', hbl', fun k hk => (hfr' k (by omega)).trans (hfr k hk), hB.cat hfr' hB', by dsimp only; omega⟩ (by simp only [F.num]; omega) sbA hzB)
  ·obtain rfl : g = F.nil := F.num_nil (by omega)
   obtain rfl : kid = e := by simp only [F.size] at hgl; omega
   have hbs := hO2.sl
   refine oS lsF (oZ hK5 (c_seq fun _ hK8 => ?_)); refine cF ?_; refine c_exit ?_; refine x_then_exit (x_then_exit (x_block_exit (xZ hK3 (cR fun _ hK9 => ?_)))); refine oM ?_; refine oS sN ?_; refine oS sF ?_; refine oS sL (oM (oM ?_)); refine oS (s_idx rfl rfl (hbl2 ▸ hbs) (by omega)) ?_; refine o_stS1 at_ kid hO2 pkA rfl rfl rfl (by omega) (by omega) fun S' hS' => ?_; refine oZ hK9 (cR fun _ hK10 => ?_); refine oM (oA (oZ hK10 (c_ret ?_))); refine ?_; refine x_sub (Sub.refl _) (H' := (K.bS, .cells [.slice K.ra K.re.length K.rc, K.v1, .slice K.ba K.re.length K.bc, K.v3, K.v4, K.v5, K.v6, K.v7, K.v8, K.v9, K.v10].toArray 103 (0, 0)) :: S') hzB ?_; exact xR rfl rfl (⟨bl2.set at_ kid, S', rfl, rfl, hS', by rw [List.length_set]; exact hbl2, fun k hk => by rw [List.getElem?_set_ne (by omega)]; exact hfr k hk, hB.top hp (by omega) (by omega)⟩)
theorem meas_all (K : MsE) (hrl : K.re.length ≤ 1000000) : ∀ L, K.Meas L
  | 0 => fun _ _ _ _ _ _ h => absurd h (Nat.not_lt_zero _)
  | L + 1 => fun x ks at_ e bl Sb hL hp hbl hO => measure_step K hrl L (meas_all K hrl L) x ks at_ e bl Sb (by omega) hp hbl hO
set_option maxHeartbeats 4000000 in
theorem startK_fn (ra : Option Addr) (rc : Nat) (re : List Nd) (hre : ∀ x ∈ re, -128 ≤ x.op ∧ x.op < 128) (ta : Option Addr) (tc : Nat) (w : List UInt8) (hrl : re.length ≤ 1000000) (hwl : w.length ≤ 1000000) (hsb : shapedB re = true) (f : Nat) : HL.Fn Tryd.prog 46 [.slice ra re.length rc, .slice ta w.length tc, .int .i64 (f : Nat)] (fun W => Rd En W (.slice ra re.length rc) re ∧ RdP W 0 0 (Esp noS)) [] (fun v S' => ∃ (K : BkE) (s : BkS) (Sb SX : Hp), v = pt K.b ∧ S' = ((K.b, .cells [.slice K.ra K.re.length K.rc, .slice K.ta K.w.length K.tc, .slice K.ba K.bl.length K.bc, .slice K.xa K.R.length K.xc, .slice s.fa (zeroF :: s.S.fs).length s.fc, .map (some K.bn), .map (some K.bt), .map (some K.bf), .slice K.sa (K.N + 1) K.sc, .int .i64 (s.S.fuel : Nat), .bool false].toArray 103 (0, 0)) :: (K.bn, mxO EkF s.en s.cn) :: (K.bt, mxO EkT s.et s.ct) :: (K.bf, mxO EkP s.ef s.cf) :: (s.Sf ++ s.Ss)) ++ (Sb ++ SX) ∧ (K.ra = ra ∧ K.rc = rc ∧ K.re = re ∧ K.ta = ta ∧ K.tc = tc ∧ K.w = w ∧ K.N = gcn re) ∧ OwnS Eix 1 3 (.slice K.ba K.bl.length K.bc) K.bl Sb ∧ OwnS Eix 1 3 (.slice K.xa K.R.length K.xc) K.R SX ∧ K.ok ∧ K.Rep s ∧ s.S = ⟨[], [], [], List.replicate (gcn re + 1) noS, f, 0⟩) := by
  refine fn_of Tryd.func46 rfl rfl rfl fun w0 hw => ?_
  have hsl := hw.1.sl
  obtain ⟨_, x0, ks0, hS⟩ := shapedB_iff.1 hsb
  have hroot : Part re (.nd x0 ks0 .nil) 0 re.length := hS.part
  have hgc : gcn re ≤ re.length := List.countP_le_length
  refine cR fun _ hK1 => ?_; refine oA (oZ hK1 (cR fun _ hK2 => ?_)); refine oM (oM (oM ?_)); refine o_mmap2 (Ek := EkF) rfl fun b15 => ?_; refine o_mmap2 (Ek := EkT) rfl fun b16 => ?_; refine o_mmap2 (Ek := EkP) rfl fun b17 => ?_; refine oS (s_build (cs := [_, _, _, _, _, _]) (vs := []) rfl rfl (.nil)) ?_; refine o_bs (E := Efr) (xs := [zeroF]) (vs := [_]) rfl rfl rfl rfl rfl (by decide) (by decide) fun b19 S19 hS19 => ?_; refine oS (s_build (cs := [_, _, _, _, _, _, _, _, _, _, _]) (vs := [_, _, _, _, _, _, _]) rfl rfl (.cons rfl rfl rfl rfl rfl (.cons rfl rfl rfl rfl rfl (.cons rfl rfl rfl rfl rfl (.cons rfl rfl rfl rfl rfl (.cons rfl rfl rfl rfl rfl (.cons rfl rfl rfl rfl rfl (.cons rfl rfl rfl rfl rfl (.nil))))))))) ?_; refine o_box rfl rfl rfl fun b21 => ?_; refine oA (oZ hK2 (cR fun _ hK3 => ?_)); refine oM (oM ?_); refine oS sC ?_; refine o_make (E := Eix) (zx := 0) (n := re.length) rfl rfl rfl (by omega) (by omega) rfl fun b25 S25 hS25 => ?_; refine oS sN ?_; refine oS sF ?_; refine o_store rfl rfl rfl upA ltA rfl ?_; refine oZ hK3 (cR fun _ hK4 => ?_); refine oM ?_; refine o_call (meas_all (⟨b21, ra, rc, re, some ⟨b25, 0, none⟩, re.length, .slice ta w.length tc, .slice none 0 0, .slice (some ⟨b19, 0, none⟩) 1 1, .map (some b15), .map (some b16), .map (some b17), .slice none 0 0, .int .i64 (f : Nat), .bool false⟩ : MsE) hrl (ks0.size + 1) x0 ks0 0 re.length _ S25 (Nat.lt_succ_self _) hroot List.length_replicate hS25) rfl rfl rfl ((Pick.takeC pkA pkA)) (fun w st => ⟨(RdK.old0 hw.1).out w st, st.apart_M (hin_cons meA hiA) hw.1 Apart.nil (by decide)⟩) (fun v29 S29 ⟨bl, Sb, hv29, hS29, hOb, hbl, _, hB⟩ => ?_)
  subst hv29; subst hS29
  dsimp only at hOb hbl hB ⊢
  refine oZ hK4 (cR fun _ hK5 => ?_); refine oM (oM ?_); refine o_callP (groups_fn ra rc re hre) rfl rfl rfl (fun w st => (RdK.old0 hw.1).out w st) (fun v32 hv32 => ?_)
  rw [if_pos hsb] at hv32
  subst hv32; refine oS (step_cast (v' := .int .i64 ((gcn re + 1 : Nat) : Int)) (s_add rfl rfl (by omega)) (congrArg _ (by omega))) ?_; refine o_make (E := Esp) (zx := ⟨0, 0⟩) (n := gcn re + 1) rfl rfl rfl (by omega) (by omega) rfl fun b34 S34 hS34 => ?_; refine oS sN ?_; refine oS sF ?_; refine o_store rfl rfl rfl upA ltA rfl ?_; refine oZ hK5 (cR fun _ hK6 => ?_); refine oM ?_; refine oS sN ?_; refine oS sF ?_; refine oS sL ?_; refine oS sC ?_; refine o_make (E := Ebo) (zx := false) (n := gcn re + 1) rfl rfl rfl (by omega) (by omega) rfl fun b42 S42 hS42 => ?_; refine oA (oZ hK6 (c_seq fun _ hK7 => ?_)); refine cR fun _ hK8 => ?_; refine oM ?_; refine oS sC (oM (oZ hK8 (c_block ?_))); refine c_loop7 (fun (q : Nat) (es : List Bool) (xa : Option Addr) (xc : Nat) (R : List Nat) (SE : Hp) (SX : Hp) => q ≤ re.length ∧ es.length = gcn re + 1 ∧ OwnS Ebo 1 4 (.slice (some ⟨b42, 0, none⟩) (gcn re + 1) (gcn re + 1)) es SE ∧ OwnS Eix 1 3 (.slice xa R.length xc) R SX ∧ RefI re q R es) (fun (q : Nat) (es : List Bool) (xa : Option Addr) (xc : Nat) (R : List Nat) (SE : Hp) (SX : Hp) => [(45, .int .i64 q)]) [(6, _), (7, _), (8, _), (43, _), (44, _)] (fun (q : Nat) (es : List Bool) (xa : Option Addr) (xc : Nat) (R : List Nat) (SE : Hp) (SX : Hp) => (b21, .cells [.slice ra re.length rc, .slice ta w.length tc, .slice (some ⟨b25, 0, none⟩) re.length re.length, .slice xa R.length xc, .slice (some ⟨b19, 0, none⟩) 1 1, .map (some b15), .map (some b16), .map (some b17), .slice (some ⟨b34, 0, none⟩) (gcn re + 1) (gcn re + 1), .int .i64 (f : Nat), .bool false].toArray 103 (0, 0)) :: (b15, mxO EkF [] 0) :: (b16, mxO EkT [] 0) :: (b17, mxO EkP [] 0) :: (S19 ++ (S34 ++ (Sb ++ (SE ++ SX))))) (fun (q : Nat) (es : List Bool) (xa : Option Addr) (xc : Nat) (R : List Nat) (SE : Hp) (SX : Hp) => re.length - q) 0 (List.replicate (gcn re + 1) false) none 0 [] S42 [] ⟨Nat.zero_le _, List.length_replicate, hS42, .nil, .nil⟩ sbA sbA hzB ?_
  rintro q es xa xc R SE SX ⟨hq, hes, hE, hX, hRI⟩
  have hsE := hE.sl
  rw [hes] at hsE
  have hRq := hRI.len
  refine cR fun _ hK9 => ?_
  by_cases hql : (q : Int) < re.length
  ·obtain ⟨x, hx⟩ : ∃ x, re[q]? = some x := gE
   have hxm := List.mem_of_getElem? hx
   refine oS lsT (oZ hK9 (c_seq fun _ hK10 => ?_)); refine cTZ hK10 (c_seq fun _ hK11 => ?_); refine c_block (cR fun _ hK12 => ?_); refine oS (s_idx rfl rfl hsl (by omega)) ?_; refine oS (s_ldB rfl ((RdK.old0 hw.1).lds q hx rfl) (by rfl)) ?_; refine o_alloc (l := En zN) (by rw [En_zero]; rfl) rfl fun b10 => ?_; refine o_stW rfl rfl upA lnA lnA onA ?_; refine oZ hK12 (cR fun _ hK13 => ?_); refine oS sF ?_; refine oS sL ?_
   by_cases o8 : x.op = 8
   ·obtain ⟨hn1, hn2⟩ := ref_n hsb hxm o8
    obtain ⟨z, hez⟩ : ∃ z, es[x.n.toNat]? = some z := gE
    refine oS (eqT (h := o8)) ?_; refine oM ?_; refine oY (oM ?_); refine oY ?_; refine oS sF ?_; refine oY ?_; refine oS sL ?_; refine oY ?_; refine oS (s_idx rfl rfl hsE (by omega)) ?_; refine oY ?_; refine oS (s_ld rfl ((hE.rdk hiA).ld x.n.toNat 0 hez rfl (by decide) (by omega))) ?_; refine oY ?_
    by_cases hz : z = false
    ·refine oS (step_cast (v' := .bool true) (s_not rfl) (by rw [hz]; rfl)) ?_; refine oS sT (oZ hK13 ?_); refine cT (cR fun _ hK14 => ?_); refine oM ?_; refine oS sF ?_; refine oS sL ?_; refine oS (s_idx rfl rfl hsE (by omega)) ?_; refine o_stS1 x.n.toNat true hE pkA rfl rfl rfl (by omega) (by omega) fun S64 hS64 => ?_; refine oZ hK14 ?_; refine c_drawE ([(b21, .cells [.slice ra re.length rc, .slice ta w.length tc, .slice (some ⟨b25, 0, none⟩) re.length re.length, .slice xa R.length xc, .slice (some ⟨b19, 0, none⟩) 1 1, .map (some b15), .map (some b16), .map (some b17), .slice (some ⟨b34, 0, none⟩) (gcn re + 1) (gcn re + 1), .int .i64 (f : Nat), .bool false].toArray 103 (0, 0)), (b10, .cells (En x).toArray 80 (0, 0))]) (fun i => Nat.beq i 11) ?_; refine eP 0 rfl sM ?_; refine eP 1 rfl sM ?_; refine eP 2 rfl sN ?_; refine eP 3 rfl sF ?_; refine eK 4 rfl sL ?_; refine eP 5 rfl sF ?_; refine eK 6 rfl (step_cast (v' := .int .i64 ((x.n.toNat : Nat) : Int)) (s_ld rfl (.own meA rfl)) (congrArg _ (by omega))) ?_; refine eO 7 rfl ?_; refine o_bs (E := Eix) (xs := [x.n.toNat]) (vs := [_]) rfl rfl rfl rfl rfl (by decide) (by decide) fun b71 S71 hS71 => ?_; refine oX (eO 8 rfl ?_); refine o_app hX (hS71.rdk hiA) rfl rfl rfl rfl (by simp only [List.length_singleton]; omega) (by simp only [List.length_singleton]; omega) rfl pkA fun a72 c72 S72 hS72 => ?_; refine oX (eO 9 rfl ?_); refine oS sN ?_
     refine oX (eO 10 rfl ?_); refine oS sF (oX (eO 11 rfl ?_)); refine o_store rfl rfl rfl upA ltA rfl ?_; refine o_nil ?_; refine x_oneL rfl ?_; refine e_done (by kernel_rfl) ?_; refine x_block (xZ hK11 (c_region ?_)); refine oS sD (oM (o_nil ?_)); exact xI (q + 1, es.set x.n.toNat true, a72, c72, R ++ [x.n.toNat], S64, S72) ⟨by dsimp only; omega, by dsimp only; rw [List.length_set]; exact hes, hS64, hS72, hRI.yes hx o8 (by omega)⟩
    ·refine oS (step_cast (v' := .bool false) (s_not rfl) (by rw [show z = true by simpa using hz]; rfl)) ?_; refine oS sT (oZ hK13 ?_); refine cF (c_skip (x_block (xZ hK11 (c_region ?_)))); refine oS sD (oM (o_nil ?_)); exact xI (q + 1, es, xa, xc, R, SE, SX) ⟨by dsimp only; omega, hes, hE, hX, hRI.old hx hez hz⟩
   ·refine oS (eqF (h := o8)) ?_; refine oM ?_; refine oN ?_; refine oN ?_; refine oN ?_; refine oN ?_; refine oN ?_; refine oN ?_; refine oS sP (oZ hK13 ?_); refine cF (c_skip (x_block (xZ hK11 (c_region ?_)))); refine oS sD (oM (o_nil ?_)); exact xI (q + 1, es, xa, xc, R, SE, SX) ⟨by dsimp only; omega, hes, hE, hX, hRI.no hx o8⟩
  ·obtain rfl : q = re.length := by omega
   refine oS lsF (oZ hK9 (c_seq fun _ hK15 => ?_)); refine cF ?_; refine c_exit ?_; refine x_then_exit (x_then_exit (x_block_exit (xZ hK7 (c_seq fun _ hK16 => ?_)))); refine cR fun _ hK17 => ?_; refine oM ?_; refine oS sN ?_; refine oS sF ?_; refine oS sL ?_; refine oS sC (oM (oZ hK17 (c_block ?_))); refine c_loop3 (fun (i : Nat) (cs : List Sp) (SS : Hp) => i ≤ gcn re + 1 ∧ cs = List.replicate i noS ++ List.replicate (gcn re + 1 - i) ⟨0, 0⟩ ∧ OwnS Esp 2 45 (.slice (some ⟨b34, 0, none⟩) (gcn re + 1) (gcn re + 1)) cs SS) (fun (i : Nat) (cs : List Sp) (SS : Hp) => [(81, .int .i64 i)]) [(6, _), (7, _), (80, _)] (fun (i : Nat) (cs : List Sp) (SS : Hp) => (b21, .cells [.slice ra re.length rc, .slice ta w.length tc, .slice (some ⟨b25, 0, none⟩) re.length re.length, .slice xa R.length xc, .slice (some ⟨b19, 0, none⟩) 1 1, .map (some b15), .map (some b16), .map (some b17), .slice (some ⟨b34, 0, none⟩) (gcn re + 1) (gcn re + 1), .int .i64 (f : Nat), .bool false].toArray 103 (0, 0)) :: (b15, mxO EkF [] 0) :: (b16, mxO EkT [] 0) :: (b17, mxO EkP [] 0) :: (S19 ++ (SS ++ (Sb ++ (SE ++ SX))))) (fun (i : Nat) (cs : List Sp) (SS : Hp) => gcn re + 1 - i) 0 (List.replicate (gcn re + 1) ⟨0, 0⟩) S34 ⟨Nat.zero_le _, rfl, hS34⟩ sbA sbA hzB ?_
   rintro i cs SS ⟨hi, hcs, hC⟩
   have hcl : cs.length = gcn re + 1 := by rw [hcs, List.length_append, List.length_replicate, List.length_replicate]; omega
   have hsC := hC.sl
   rw [hcl] at hsC
   refine cR fun _ hK18 => ?_
   by_cases hil : (i : Int) < (gcn re + 1 : Nat)
   ·refine oS lsT (oZ hK18 (c_seq fun _ hK19 => ?_)); refine cTZ hK19 (c_seq fun _ hK20 => ?_); refine c_block (cR fun _ hK21 => ?_); refine oM (oA (oZ hK21 ?_)); refine c_drawE ((b21, .cells [.slice ra re.length rc, .slice ta w.length tc, .slice (some ⟨b25, 0, none⟩) re.length re.length, .slice xa R.length xc, .slice (some ⟨b19, 0, none⟩) 1 1, .map (some b15), .map (some b16), .map (some b17), .slice (some ⟨b34, 0, none⟩) (gcn re + 1) (gcn re + 1), .int .i64 (f : Nat), .bool false].toArray 103 (0, 0)) :: SS) (fun i => Nat.beq i 7) ?_; refine eP 0 rfl sM ?_; refine eP 1 rfl sN ?_; refine eP 2 rfl sF ?_; refine eK 3 rfl sL ?_; refine eP 4 rfl sM ?_; refine eK 5 rfl (s_ldB (cs := Esp noS) rfl (RdPK.old0 hw.2).cels rfl) ?_; refine eO 6 rfl ?_; refine oS (s_idx rfl rfl hsC (by omega)) ?_; refine oX (eO 7 rfl ?_); refine o_stSE i noS hC pkA rfl rfl (by omega) (by rfl) fun S' hS' => ?_; refine o_nil ?_; refine x_oneL rfl ?_; refine e_done (by kernel_rfl) ?_; refine x_block (xZ hK20 (c_region ?_)); refine oS sD (oM (o_nil ?_)); exact xI (i + 1, cs.set i noS, S') ⟨by dsimp only; omega, by dsimp only; rw [hcs, show gcn re + 1 - i = (gcn re + 1 - (i + 1)) + 1 by omega]; exact rep_set, hS'⟩
   ·obtain rfl : i = gcn re + 1 := by omega
    rw [Nat.sub_self, List.replicate_zero, List.append_nil] at hcs
    subst hcs; refine oS lsF (oZ hK18 (c_seq fun _ hK22 => ?_)); refine cF ?_; refine c_exit ?_; refine x_then_exit (x_then_exit (x_block_exit (xZ hK16 (cR fun _ hK23 => ?_)))); refine oM (oA (oZ hK23 (c_ret ?_))); refine ?_; refine x_sub (Sub.refl _) (H' := ((b21, .cells [.slice ra re.length rc, .slice ta w.length tc, .slice (some ⟨b25, 0, none⟩) re.length re.length, .slice xa R.length xc, .slice (some ⟨b19, 0, none⟩) 1 1, .map (some b15), .map (some b16), .map (some b17), .slice (some ⟨b34, 0, none⟩) (gcn re + 1) (gcn re + 1), .int .i64 (f : Nat), .bool false].toArray 103 (0, 0)) :: (b15, mxO EkF [] 0) :: (b16, mxO EkT [] 0) :: (b17, mxO EkP [] 0) :: (S19 ++ SS)) ++ (Sb ++ SX)) hzB ?_
    exact xR rfl rfl (⟨(⟨b21, ra, rc, re, ta, tc, w, some ⟨b25, 0, none⟩, re.length, bl, xa, xc, R, b15, b16, b17, some ⟨b34, 0, none⟩, gcn re + 1, gcn re⟩ : BkE), (⟨⟨[], [], [], List.replicate (gcn re + 1) noS, f, 0⟩, some ⟨b19, 0, none⟩, 1, S19, SS, [], 0, [], 0, [], 0⟩ : BkS), Sb, SX, rfl, by dsimp only; rw [hbl]; rfl, ⟨rfl, rfl, rfl, rfl, rfl, rfl, rfl⟩, by dsimp only; rw [hbl]; exact hOb, hX, ⟨⟨_, hroot⟩, hrl, hwl, by dsimp only; omega, ⟨hbl, fun k y js r e hk hp => hB k y js r e (Nat.zero_le _) hk hp⟩, ⟨fun y hy h8 => ⟨(ref_n hsb hy h8).1, hRI.all hy h8⟩, fun y hy h7 => (by have := grp_le hsb hy h7; show 1 ≤ y.n ∧ y.n.toNat ≤ gcn re; omega), by have := (gl_take hsb re.length (Nat.le_refl _)).1; rw [List.take_length] at this; exact this⟩, fun r hr => (by have := hRI.le hes r hr; exact this), by dsimp only; omega⟩, ⟨hS19, hC, List.length_replicate, fun _ => rfl, fun _ => rfl, rfl, fun p => by simp [getM]⟩, rfl⟩)
def RowP (N : Nat) (Pool : Hp) (s : Sl Sp) : Prop := s.xs.length = N ∧ IsSl s.v s.xs.length ∧ RdS Esp s.v s.xs Pool
theorem RowP.mono {N : Nat} {P P' : Hp} {s : Sl Sp} (h : RowP N P s) (hs : HIn P P') : RowP N P' s := ⟨h.1, h.2.1, h.2.2.mono hs⟩
def PoolR (zs : List (Sl Sp)) (N : Nat) (Pool : Hp) : Prop := ∀ s ∈ zs, RowP N Pool s
theorem PoolR.mono {zs : List (Sl Sp)} {N : Nat} {P P' : Hp} (h : PoolR zs N P) (hs : HIn P P') : PoolR zs N P' := fun s hm => (h s hm).mono hs
theorem PoolR.snoc {zs : List (Sl Sp)} {x : Sl Sp} {N : Nat} {P : Hp} (h : PoolR zs N P) (hx : RowP N P x) : PoolR (zs ++ [x]) N P := fun s hm => by
  rcases List.mem_append.1 hm with hm | hm
  · exact h s hm
  · obtain rfl := List.mem_singleton.1 hm
    exact hx
set_option maxHeartbeats 2000000 in
theorem moreV_fn (la : Option Addr) (lc : Nat) (zs : List (Sl Sp)) (SL Pool : Hp) (hS : OwnS Esl 1 32 (.slice la zs.length lc) zs SL) (N : Nat) (hz : PoolR zs N Pool) (x : Sl Sp) (hx : RowP N Pool x) (hzl : zs.length ≤ 1000000) (hN : N ≤ 1000000) : HL.Fn Tryd.prog 120 [.slice la zs.length lc, .slice x.a x.xs.length x.c] (fun _ => True) (SL ++ Pool) (fun v S' => ∃ a c zs' SL', v = .slice a zs'.length c ∧ S' = SL' ++ Pool ∧ OwnS Esl 1 32 (.slice a zs'.length c) zs' SL' ∧ PoolR zs' N Pool ∧ zs'.length ≤ zs.length + 1 ∧ (∀ s ∈ zs, s ∈ zs') ∧ x.xs ∈ zs'.map Sl.xs) := by
  refine fn_of Tryd.func120 rfl rfl rfl fun w0 hw => ?_
  have hsl := hS.sl
  have hx1 := hx.1
  refine cR fun _ hK1 => ?_; refine oA (oZ hK1 (c_seq fun _ hK2 => ?_)); refine cR fun _ hK3 => ?_; refine oA (oZ hK3 (c_block ?_))
  -- not carried: 4
  refine c_loopB (fun (i : Nat) => i ≤ zs.length) (fun (i : Nat) => [(5, .int .i64 i)]) [(0, _), (1, _)] (fun (i : Nat) => SL ++ Pool) (fun (i : Nat) => zs.length - i) 0 (Nat.zero_le _) sbA sbA hzB ?_
  rintro i hi
  refine c_seq fun _ hK4 => ?_; refine cR fun _ hK5 => ?_; refine oM (oM ?_); refine oS sC ?_
  by_cases hil : (i : Int) < zs.length
  ·obtain ⟨z, hzi⟩ : ∃ z, zs[i]? = some z := gE
   have hzm := hz z (List.mem_of_getElem? hzi)
   have hz1 := hzm.1
   refine oS lsT (oZ hK5 ?_); refine cTZ hK4 (c_seq fun _ hK6 => ?_); refine c_block (cR fun _ hK7 => ?_); refine oA (oZ hK7 (c_seq fun _ hK8 => ?_)); refine cR fun _ hK9 => ?_; refine oA (oZ hK9 (c_block ?_)); refine c_loop2 (fun (k : Nat) (b : Bool) => k ≤ x.xs.length ∧ (b = true → ∀ m, m < k → z.xs[m]? = x.xs[m]?)) (fun (k : Nat) (b : Bool) => [(7, .int .i64 k), (6, .bool b)]) [(0, _), (1, _), (5, _), (8, _), (9, _), (10, _), (11, _)] (fun (k : Nat) (b : Bool) => SL ++ Pool) (fun (k : Nat) (b : Bool) => x.xs.length - k) 0 true ⟨Nat.zero_le _, fun _ m hm => absurd hm (Nat.not_lt_zero _)⟩ sbA sbA hzB ?_
   rintro k b ⟨hk, hbI⟩
   refine c_seq fun _ hK10 => ?_; refine cR fun _ hK11 => ?_; refine oM (oM ?_); refine oS sC ?_
   by_cases hkl : (k : Int) < x.xs.length
   ·obtain ⟨p, hp⟩ : ∃ p, z.xs[k]? = some p := ⟨_, List.getElem?_eq_getElem (by have := hzm.1; have := hx.1; omega)⟩
    obtain ⟨q, hq⟩ : ∃ q, x.xs[k]? = some q := gE
    refine oS lsT (oZ hK11 ?_); refine cTZ hK10 (c_seq fun _ hK12 => ?_); refine c_block ?_; refine c_drawE (SL ++ Pool) (fun i => false) ?_
    by_cases hb : b = true
    ·refine eK 0 rfl (step_cast (v' := .bool true) (s_move rfl) (by rw [hb])) ?_; refine eK 1 rfl sM ?_; refine eG 2 rfl sM ?_; refine eG 3 rfl sM ?_; refine eG 4 rfl (s_idx rfl rfl hsl (by omega)) ?_; refine eG 5 rfl (s_ld rfl ((hS.rdk hiA).ld i 0 hzi rfl (by decide) (by omega))) ?_; refine eG 6 rfl sM ?_; refine eG 7 rfl (s_idx rfl rfl hzm.2.1 (by omega)) ?_; refine eG 8 rfl (s_ldB rfl ((hzm.2.2.rdk hiA).cels hp) lnA) ?_; refine eG 9 rfl sM ?_; refine eG 10 rfl sM ?_; refine eG 11 rfl (s_idx rfl rfl hx.2.1 (by omega)) ?_; refine eG 12 rfl (s_ldB rfl ((hx.2.2.rdk hiA).cels hq) lnA) ?_; refine eG 13 rfl (s_eql_sp rfl rfl) ?_; refine eK 14 rfl sT ?_; refine eK 15 rfl sA ?_; refine e_done (by kernel_rfl) ?_; refine x_block (xZ hK12 (c_region (oM ?_))); refine oS sD (oA (o_nil ?_)); exact xI (k + 1, _) ⟨by dsimp only; omega, fun h m hm => if e : m = k then (by subst e; rw [hp, hq]; exact congrArg some (of_decide_eq_true h)) else hbI hb m (by omega)⟩
    ·refine eK 0 rfl (step_cast (v' := .bool false) (s_move rfl) (by rw [Bool.eq_false_iff.2 hb])) ?_; refine eK 1 rfl sM ?_; refine eS 2 rfl (eS 3 rfl (eS 4 rfl (eS 5 rfl (eS 6 rfl (eS 7 rfl (eS 8 rfl (eS 9 rfl (eS 10 rfl (eS 11 rfl (eS 12 rfl (eS 13 rfl ?_))))))))))); refine eK 14 rfl sP ?_; refine eK 15 rfl sA ?_; refine e_done (by kernel_rfl) ?_; refine x_block (xZ hK12 (c_region (oM ?_))); refine oS sD (oA (o_nil ?_)); exact xI (k + 1, false) ⟨by dsimp only; omega, fun h => (by cases h)⟩
   ·obtain rfl : k = x.xs.length := by omega
    refine oS lsF (oZ hK11 ?_); refine cF ?_; refine c_exit ?_; refine x_then_exit (x_then_exit (x_block_exit (xZ hK8 (cR fun _ hK13 => ?_))))
    by_cases hb2 : b = true
    ·have hzx : z.xs = x.xs := List.ext_getElem? fun m => by
       rcases Nat.lt_or_ge m x.xs.length with h | h
       · exact hbI hb2 m h
       · rw [List.getElem?_eq_none (by omega), List.getElem?_eq_none h]
     refine oS (step_cast (v' := .bool true) (s_move rfl) (by rw [hb2])) ?_; refine oZ hK13 ?_; refine cT (cR fun _ hK14 => ?_); refine oM (oA (oZ hK14 (c_ret ?_))); refine x_block_ret (x_then_ret (x_then_ret (x_block_ret (x_then_ret (?_)))))
     exact xR rfl rfl (⟨la, lc, zs, SL, rfl, rfl, hS, hz, by omega, fun s h => h, List.mem_map.2 ⟨z, List.mem_of_getElem? hzi, hzx⟩⟩)
    ·refine oS (step_cast (v' := .bool false) (s_move rfl) (by rw [Bool.eq_false_iff.2 hb2])) ?_; refine oZ hK13 ?_; refine cF (c_skip (x_block (xZ hK6 (c_region (oM ?_))))); refine oS sD (oA (o_nil ?_)); exact xI (i + 1) (by omega)
  ·refine oS lsF (oZ hK5 ?_); refine cF ?_; refine c_exit ?_; refine x_then_exit (x_then_exit (x_block_exit (xZ hK2 (cR fun _ hK15 => ?_)))); refine oM (oM ?_); refine o_bs (E := Esl) (xs := [x]) (vs := [_]) rfl rfl rfl rfl rfl (by decide) (by decide) fun b39 S39 hS39 => ?_; refine o_app hS (hS39.rdk hiA) rfl rfl rfl rfl (by simp; omega) (by simp; omega) rfl pkA fun a40 c40 S40 hS40 => ?_; refine oA (oZ hK15 (c_ret ?_)); refine ?_; refine x_sub (Sub.refl _) (H' := S40 ++ Pool) hzB ?_; exact xR rfl rfl (⟨a40, c40, zs ++ [x], S40, rfl, rfl, hS40, hz.snoc hx, by simp, fun s h => List.mem_append_left _ h, List.mem_map.2 ⟨x, by simp, rfl⟩⟩)
set_option maxHeartbeats 2000000 in
theorem tAllV_fn (bT : Nat) (ra : Option Addr) (rc : Nat) (re : List Nd) (n : Int) (ha : Option Addr) (hc : Nat) (hl : List Nat) (left : Int) (la : Option Addr) (lc : Nat) (zs : List (Sl Sp)) (SL : Hp) (hS : OwnS Esl 1 32 (.slice la zs.length lc) zs SL) (ka : Option Addr) (kc : Nat) (ms : List (Sl Sp)) (SM Pool : Hp) (hM : OwnS Esl 1 32 (.slice ka ms.length kc) ms SM) (N : Nat) (hz : PoolR zs N Pool) (hm : PoolR ms N Pool) (hN : N ≤ 1000000) (hK : (zs.length : Int) + left ≤ 600000) (hlo : -700000 ≤ left) (hml : ms.length ≤ 3000000) (hzl : zs.length ≤ 3000000) : HL.Fn Tryd.prog 108 [pt bT, .slice la zs.length lc, .slice ka ms.length kc] (fun _ => True) ((bT, .cells [.slice ra re.length rc, .int .i64 n, .slice ha hl.length hc, .int .i64 left].toArray 144 (0, 0)) :: (SL ++ (SM ++ Pool))) (fun v S' => ∃ a c zs' SL' left', v = .slice a zs'.length c ∧ S' = (bT, .cells [.slice ra re.length rc, .int .i64 n, .slice ha hl.length hc, .int .i64 left'].toArray 144 (0, 0)) :: (SL' ++ (SM ++ Pool)) ∧ OwnS Esl 1 32 (.slice a zs'.length c) zs' SL' ∧ PoolR zs' N Pool ∧ (zs'.length : Int) + left' ≤ zs.length + left ∧ left' ≤ left ∧ -700000 ≤ left' ∧ (0 ≤ left' → (∀ s ∈ zs, s ∈ zs') ∧ (∀ s ∈ ms, s.xs ∈ zs'.map Sl.xs) ∧ left' + ms.length ≤ left)) := by
  refine fn_of Tryd.func108 rfl rfl rfl fun w0 hw => ?_
  have hsl := hM.sl
  refine cR fun _ hK1 => ?_; refine oA (oZ hK1 (c_seq fun _ hK2 => ?_)); refine cR fun _ hK3 => ?_; refine oA (oZ hK3 (c_block ?_)); refine c_loop6 (fun (i : Nat) (a : Option Addr) (c : Nat) (ys : List (Sl Sp)) (S : Hp) (lf : Int) => i ≤ ms.length ∧ OwnS Esl 1 32 (.slice a ys.length c) ys S ∧ PoolR ys N Pool ∧ (ys.length : Int) + lf ≤ zs.length + left ∧ lf ≤ left ∧ -700000 ≤ lf ∧ (∀ s ∈ zs, s ∈ ys) ∧ (∀ m s, m < i → ms[m]? = some s → s.xs ∈ ys.map Sl.xs) ∧ lf + i ≤ left) (fun (i : Nat) (a : Option Addr) (c : Nat) (ys : List (Sl Sp)) (S : Hp) (lf : Int) => [(7, .int .i64 i), (1, .slice a ys.length c)]) [(0, _), (2, _), (6, _)] (fun (i : Nat) (a : Option Addr) (c : Nat) (ys : List (Sl Sp)) (S : Hp) (lf : Int) => (bT, .cells [.slice ra re.length rc, .int .i64 n, .slice ha hl.length hc, .int .i64 lf].toArray 144 (0, 0)) :: (S ++ (SM ++ Pool))) (fun (i : Nat) (a : Option Addr) (c : Nat) (ys : List (Sl Sp)) (S : Hp) (lf : Int) => ms.length - i) 0 la lc zs SL left ⟨Nat.zero_le _, hS, hz, Int.le_refl _, Int.le_refl _, hlo, fun s h => h, fun m s h => absurd h (Nat.not_lt_zero _), by omega⟩ sbA sbA hzB ?_
  rintro i a c ys S lf ⟨hi, hy, hyz, hyk, hlf, hlo2, hin1, hin2, hcst⟩
  refine c_seq fun _ hK4 => ?_; refine cR fun _ hK5 => ?_; refine oM (oM ?_); refine oS sC ?_
  by_cases hil : (i : Int) < ms.length
  ·obtain ⟨z, hzi⟩ : ∃ z, ms[i]? = some z := gE
   have hzm := hm z (List.mem_of_getElem? hzi)
   refine oS lsT (oM ?_); refine oY (oM ?_); refine oY ?_; refine oS sN ?_; refine oY ?_; refine oS sF ?_; refine oY ?_; refine oS sL ?_; refine oY ?_
   by_cases hlf0 : lf ≥ 0
   ·refine oS geT ?_; refine oS sT (oZ hK5 ?_); refine cTZ hK4 (c_seq fun _ hK6 => ?_); refine c_block (cR fun _ hK7 => ?_); refine oM (oM ?_); refine oS sN ?_; refine oS sF ?_; refine oS sL ?_; refine oS sU (oM ?_); refine oS sC ?_; refine oS sU ?_; refine oS sN ?_; refine oS sF ?_; refine o_store rfl rfl rfl upA ltA rfl ?_; refine oZ hK7 ?_
    refine c_region (oM (oM (oM ?_))); refine oS (s_idx rfl rfl hsl (by omega)) ?_; refine oS (s_ld rfl ((hM.rdk hiA).ld i 0 hzi rfl (by decide) (by omega))) ?_; refine o_call (moreV_fn a c ys S Pool hy N hyz z hzm (by omega) hN) rfl rfl rfl ((Pick.takeA pkA pkA)) (fun _ _ => trivial) (fun v37 S37 ⟨a37, c37, ys37, SL37, hv37, hS37, hO37, hP37, hl37, hu37, hw37⟩ => ?_); subst hv37
    subst hS37; refine oA (o_nil (x_block (xZ hK6 (c_region (oM ?_))))); refine oS sD (oA (o_nil ?_))
    have hin3 : ∀ m s, m < i + 1 → ms[m]? = some s → s.xs ∈ ys37.map Sl.xs := fun m s hmi hms => by
      by_cases e : m = i
      · subst e; rw [hzi] at hms; cases hms; exact hw37
      · obtain ⟨s2, h1, h2⟩ := List.mem_map.1 (hin2 m s (by omega) hms)
        exact List.mem_map.2 ⟨s2, hu37 s2 h1, h2⟩
    exact xI (i + 1, a37, c37, ys37, SL37, lf - 1 - (ys.length : Int)) ⟨by dsimp only; omega, hO37, hP37, by dsimp only; omega, by dsimp only; omega, by dsimp only; omega, fun s h => hu37 s (hin1 s h), hin3, by dsimp only; omega⟩
   ·refine oS geF ?_; refine oS sT (oZ hK5 ?_); refine cF ?_; refine c_exit ?_; refine x_then_exit (x_then_exit (x_block_exit (xZ hK2 (cR fun _ hK8 => ?_)))); refine oM (oA (oZ hK8 (c_ret ?_))); refine ?_; refine x_sub (Sub.refl _) (H' := (bT, .cells [.slice ra re.length rc, .int .i64 n, .slice ha hl.length hc, .int .i64 lf].toArray 144 (0, 0)) :: (S ++ (SM ++ Pool))) hzB ?_; exact xR rfl rfl (⟨a, c, ys, S, lf, rfl, rfl, hy, hyz, hyk, hlf, hlo2, fun h => absurd h (by omega)⟩)
  ·refine oS lsF (oM ?_); refine oN ?_; refine oN ?_; refine oN ?_; refine oN ?_; refine oN ?_; refine oS sP (oZ hK5 ?_); refine cF ?_; refine c_exit ?_; refine x_then_exit (x_then_exit (x_block_exit (xZ hK2 (cR fun _ hK9 => ?_)))); refine oM (oA (oZ hK9 (c_ret ?_))); refine ?_; refine x_sub (Sub.refl _) (H' := (bT, .cells [.slice ra re.length rc, .int .i64 n, .slice ha hl.length hc, .int .i64 lf].toArray 144 (0, 0)) :: (S ++ (SM ++ Pool))) hzB ?_; exact xR rfl rfl (⟨a, c, ys, S, lf, rfl, rfl, hy, hyz, hyk, hlf, hlo2, fun _ => ⟨hin1, fun s hs => (by obtain ⟨m, hm1⟩ := List.mem_iff_getElem?.1 hs; exact hin2 m s (by have := (List.getElem?_eq_some_iff.1 hm1).1; omega) hm1), by omega⟩⟩)
set_option maxHeartbeats 2000000 in
theorem emptiedV_fn (bF : Nat) (u1 u2 : Value) (ra : Option Addr) (rc : Nat) (re : List Nd) (hre : ∀ x ∈ re, -128 ≤ x.op ∧ x.op < 128) (hrl : re.length ≤ 1000000) (N : Nat) (hN : N ≤ 1000000) (hs1 : ∀ y ∈ re, y.op = 7 → 1 ≤ y.n ∧ y.n ≤ N) (xa : Option Addr) (xc : Nat) (xs : List Sp) (hx : xs.length = N) (a b : Nat) (hb : b ≤ re.length) : HL.Fn Tryd.prog 119 [pt bF, .slice xa xs.length xc, .int .i64 a, .int .i64 b] (fun W => RdP W bF 0 [.slice ra re.length rc, u1, u2] ∧ Rd En W (.slice ra re.length rc) re ∧ Rd Esp W (.slice xa xs.length xc) xs) [] (fun v S' => ∃ a' c', v = .slice a' N c' ∧ OwnS Esp 2 45 (.slice a' N c') (empTo re a b xs) S') := by
  refine fn_of Tryd.func119 rfl rfl rfl fun w0 hw => ?_
  have hsl := hw.2.1.sl
  have hbl := hsl.le
  have hxl := hw.2.2.sl
  refine cR fun _ hK1 => ?_; refine oA (oZ hK1 (cR fun _ hK2 => ?_)); refine oA (oZ hK2 (cR fun _ hK3 => ?_)); refine oM (oM ?_); refine o_app (OwnS.nil : OwnS Esp 2 45 (.slice none 0 0) [] []) (RdK.old0 hw.2.2) rfl rfl rfl rfl (by simp; omega) (by simp; omega) rfl pkA fun a13 c13 S13 hS13 => ?_
  rw [List.nil_append] at hS13
  rw [List.nil_append, hx]
  rw [hx] at hS13
  refine oA (oZ hK3 (c_seq fun _ hK4 => ?_)); refine cR fun _ hK5 => ?_; refine oM (oA (oZ hK5 (c_block ?_))); refine c_loop2 (fun (j : Nat) (S : Hp) => a ≤ j ∧ (j ≤ b ∨ j = a) ∧ OwnS Esp 2 45 (.slice a13 N c13) (empTo re a j xs) S) (fun (j : Nat) (S : Hp) => [(10, .int .i64 j)]) [(0, _), (3, _), (8, _), (9, _)] (fun (j : Nat) (S : Hp) => S) (fun (j : Nat) (S : Hp) => b - j) a S13 ⟨Nat.le_refl _, .inr rfl, by rw [empTo_start (Nat.le_refl _)]; exact hS13⟩ sbA sbA hzB ?_
  rintro j S ⟨haj, hjb, hS⟩
  have hyl : (empTo re a j xs).length = N := by unfold empTo; rw [emp_len]; exact hx
  have hys := hS.sl
  rw [hyl] at hys
  refine c_seq fun _ hK6 => ?_; refine cR fun _ hK7 => ?_; refine oM (oM ?_)
  by_cases hjl : (j : Int) < b
  ·obtain ⟨y, hj⟩ : ∃ y, re[j]? = some y := gE
   have hym := List.mem_of_getElem? hj
   have hyo := hre y hym
   refine oS lsT (oZ hK7 ?_); refine cTZ hK6 (c_seq fun _ hK8 => ?_); refine c_block (cR fun _ hK9 => ?_); refine oM ?_; refine oS sN ?_; refine oS sF ?_; refine oS (s_ld rfl ((RdPK.old0 hw.1).cel (j := 0) rfl rfl)) ?_; refine oM ?_; refine oS (s_idx rfl rfl hsl (by omega)) ?_; refine oS sF ?_; refine oS (s_ld rfl ((RdK.old0 hw.2.1).ld j 0 hj rfl (by decide) (by omega))) ?_; refine oS (s_convI rfl (by omega)) ?_
   by_cases h7 : y.op = 7
   ·obtain ⟨hn1, hn2⟩ := hs1 y hym h7
    obtain ⟨g, hg⟩ : ∃ g : Nat, y.n = g + 1 := ⟨(y.n - 1).toNat, by omega⟩
    refine oS (eqT (h := h7)) ?_; refine oZ hK9 ?_; refine cT (c_region (oM (oM ?_))); refine oS sN ?_; refine oS sF ?_; refine oS (s_ld rfl ((RdPK.old0 hw.1).cel (j := 0) rfl rfl)) ?_; refine oM ?_; refine oS (s_idx rfl rfl hsl (by omega)) ?_; refine oS sF ?_; refine oS (step_cast (v' := .int .i64 ((g : Int) + 1)) (s_ld rfl ((RdK.old0 hw.2.1).ld j 5 hj rfl (by decide) (by omega))) (by rw [hg])) ?_; refine oS (step_cast (v' := .int .i64 (g : Int)) (s_sub rfl rfl (by omega)) (congrArg _ (by omega))) ?_; refine oS (s_build (cs := [_, _]) (vs := [_, _]) rfl rfl (.cons rfl rfl rfl rfl rfl (.cons rfl rfl rfl rfl rfl (.nil)))) ?_; refine oS (s_idx rfl rfl hys (by omega)) ?_; refine o_stSE g noS hS pkA rfl rfl (by omega) (by rfl) fun S' hS' => ?_; refine o_nil (x_block (xZ hK8 (c_region (oM ?_)))); refine oS sD (oA (o_nil ?_)); exact xI (j + 1, _) ⟨by dsimp only; omega, by dsimp only; omega, by rw [empTo_step hj haj]; unfold em1; rw [if_pos h7, show y.n.toNat - 1 = g by omega]; exact hS'⟩
   ·refine oS (eqF (h := h7)) ?_; refine oZ hK9 ?_; refine cF (c_skip (x_block (xZ hK8 (c_region (oM ?_))))); refine oS sD (oA (o_nil ?_)); exact xI (j + 1, _) ⟨by dsimp only; omega, by dsimp only; omega, by rw [empTo_step hj haj]; unfold em1; rw [if_neg h7]; exact hS⟩
  ·have hend : empTo re a j xs = empTo re a b xs := if e : j ≤ b then by rw [show j = b by omega] else by rw [empTo_start (by omega), empTo_start (by omega)]
   rw [hend] at hS
   refine oS lsF (oZ hK7 ?_); refine cF ?_; refine c_exit ?_; refine x_then_exit (x_then_exit (x_block_exit (xZ hK4 (cR fun _ hK10 => ?_)))); refine oM (oA (oZ hK10 (c_ret ?_))); refine ?_; refine x_sub (Sub.refl _) (H' := S) hzB ?_; exact xR rfl rfl (⟨a13, c13, rfl, hS⟩)
set_option maxHeartbeats 1000000 in
theorem tEmptiedOV_fn (bT : Nat) (us : List Value) (ra : Option Addr) (rc : Nat) (re : List Nd) (hre : ∀ x ∈ re, -128 ≤ x.op ∧ x.op < 128) (hrl : re.length ≤ 1000000) (N : Nat) (hN : N ≤ 1000000) (hs1 : ∀ y ∈ re, y.op = 7 → 1 ≤ y.n ∧ y.n ≤ N) (xa : Option Addr) (xc : Nat) (xs : List Sp) (hx : xs.length = N) (a b : Nat) (hb : b ≤ re.length) : HL.Fn Tryd.prog 110 [pt bT, .slice xa xs.length xc, .int .i64 a, .int .i64 b] (fun W => RdP W bT 0 (.slice ra re.length rc :: us) ∧ Rd En W (.slice ra re.length rc) re ∧ Rd Esp W (.slice xa xs.length xc) xs) [] (fun v S' => ∃ S2, HSub S' S2 ∧ ∃ a' c', v = .slice a' N c' ∧ OwnS Esp 2 45 (.slice a' N c') (empTo re a b xs) S2) := by
  refine fn_of Tryd.func110 rfl rfl rfl fun w0 hw => ?_
  have hsl := hw.2.1.sl
  have hbl := hsl.le
  refine cR fun _ hK1 => ?_; refine oA (oZ hK1 (cR fun _ hK2 => ?_)); refine oM ?_; refine oS sN ?_; refine oS sF ?_; refine oS (s_ld rfl ((RdPK.old0 hw.1).cel (j := 0) rfl rfl)) ?_; refine oS (s_build (cs := [_, _, _]) (vs := [_]) rfl rfl (.cons rfl rfl rfl rfl rfl (.nil))) ?_; refine o_box rfl rfl rfl fun b15 => ?_; refine oA (oZ hK2 (cR fun _ hK3 => ?_)); refine oM (oM (oM (oM ?_))); refine o_call (emptiedV_fn b15 _ _ ra rc re hre hrl N hN hs1 xa xc xs hx a b hb) rfl rfl rfl (by exact .nil) (fun _ st => ⟨(RdPK.own meA).out _ st, (RdK.old0 hw.2.1).out _ st, (RdK.old0 hw.2.2).out _ st⟩) (fun v20 S20 ⟨a20, c20, hv20, hO20⟩ => ?_)
  subst hv20; refine oA (oZ hK3 (c_ret ?_)); refine ?_; exact xR rfl rfl (⟨S20, hzB, a20, c20, rfl, hO20⟩)
theorem tEmptiedV_fn (bT : Nat) (us : List Value) (ra : Option Addr) (rc : Nat) (re : List Nd) (hre : ∀ x ∈ re, -128 ≤ x.op ∧ x.op < 128) (hrl : re.length ≤ 1000000) (N : Nat) (hN : N ≤ 1000000) (hs1 : ∀ y ∈ re, y.op = 7 → 1 ≤ y.n ∧ y.n ≤ N) (xa : Option Addr) (xc : Nat) (xs : List Sp) (hx : xs.length = N) (a b : Nat) (hb : b ≤ re.length) : HL.Fn Tryd.prog 110 [pt bT, .slice xa xs.length xc, .int .i64 a, .int .i64 b] (fun W => RdP W bT 0 (.slice ra re.length rc :: us) ∧ Rd En W (.slice ra re.length rc) re ∧ Rd Esp W (.slice xa xs.length xc) xs) [] (fun v S' => ∃ a' c', v = .slice a' N c' ∧ OwnS Esp 2 45 (.slice a' N c') (empTo re a b xs) S') :=
  Fn.sub (tEmptiedOV_fn bT us ra rc re hre hrl N hN hs1 xa xc xs hx a b hb) fun v S' ⟨S2, h1, h2⟩ => ⟨S2, h1, h2⟩
end Go.Proofs.YtloepfcndglmmaaDoor
namespace Go.Proofs.YtloepfcndglmmaaDoor
open Go Go.HL Go.Proofs Go.HL.Kl Go.HL.Kl.Mc
theorem behinds_fn (ra : Option Addr) (rc : Nat) (re : List Nd) (hre : ∀ x ∈ re, -128 ≤ x.op ∧ x.op < 128) (x0 : Nd) (ks0 : F) (hp0 : Part re (.nd x0 ks0 .nil) 0 re.length) (hrl : re.length ≤ 1000000) : HL.Fn Tryd.prog 73 [.slice ra re.length rc] (fun w => Rd En w (.slice ra re.length rc) re) [] (fun v S' => ∃ b l, v = .slice (some ⟨b, 0, none⟩) re.length re.length ∧ OwnS Eix 1 3 (.slice (some ⟨b, 0, none⟩) re.length re.length) l S' ∧ EndsOk re 0 l) := by
  refine fn_of Tryd.func73 rfl rfl rfl fun w0 hw => ?_
  have hsl := hw.sl
  have hbl := hsl.le
  refine cR fun _ hK1 => ?_; refine oA (oZ hK1 (cR fun _ hK2 => ?_)); refine oM ?_; refine oS sC ?_; refine o_make (E := Eix) (zx := 0) (n := re.length) rfl rfl rfl (by omega) (by omega) rfl fun b8 S8 hS8 => ?_; refine oA (oZ hK2 (c_seq fun _ hK3 => ?_)); refine cR fun _ hK4 => ?_; refine oM ?_; refine oS sC ?_; refine oS sU (oA (oZ hK4 (c_block ?_))); refine c_loop3 (fun (c : Nat) (l : List Nat) (S : Hp) => c ≤ re.length ∧ OwnS Eix 1 3 (.slice (some ⟨b8, 0, none⟩) re.length re.length) l S ∧ EndsOk re c l) (fun (c : Nat) (l : List Nat) (S : Hp) => [(4, .int .i64 ((c : Int) - 1))]) [(0, _), (2, _), (3, _)] (fun (c : Nat) (l : List Nat) (S : Hp) => S) (fun (c : Nat) (l : List Nat) (S : Hp) => c) re.length _ _ ⟨by omega, hS8, .start List.length_replicate⟩ sbA sbA hzB ?_
  rintro c l S ⟨hc, hS, hE⟩
  have hls := hS.sl
  have hEl := hE.1
  rw [hE.1] at hls
  refine c_seq fun _ hK5 => ?_; refine cR fun _ hK6 => ?_; refine oM ?_
  by_cases hc1 : 1 ≤ c
  ·obtain ⟨a, rfl⟩ : ∃ a, c = a + 1 := ⟨c - 1, by omega⟩
   obtain ⟨x, ks, r0, ia, hpa⟩ := hp0.at _ _ _ a (Nat.zero_le _) (by omega)
   obtain ⟨hx, hpk, _⟩ := hpa.head
   have hok : ndOk x = true := hpa.wf.1
   have hk0 := ndOk_kids hok
   have hkn : (ks.num : Int) = x.kids := hpa.wf.2.1
   have hns := F.num_le ks
   have hpkl := hpk.le
   refine oS geT (oZ hK6 ?_); refine cTZ hK5 (c_seq fun _ hK7 => ?_); refine c_block (cR fun _ hK8 => ?_); refine oM ?_; refine oS sD (oA (oZ hK8 (c_seq fun _ hK9 => ?_))); refine cR fun _ hK10 => ?_; refine oM (oM ?_); refine oS (s_idx rfl rfl hsl (by omega)) ?_; refine oS sF ?_; refine oS (s_ld rfl ((RdK.old0 hw).ld a 8 hx rfl (by decide) (by omega))) ?_; refine oM (oZ hK10 ?_)
   refine c_block ?_; refine c_loop3 (fun (k : Nat) (to : Nat) (r1 : F) => k + r1.num = ks.num ∧ Part re r1 to (a + 1 + ks.size) ∧ a + 1 ≤ to) (fun (k : Nat) (to : Nat) (r1 : F) => [(23, .int .i64 k), (5, .int .i64 to)]) [(0, _), (2, _), (3, _), (4, _), (12, _), (13, _), (16, _), (17, _), (18, _), (19, _), (20, _), (21, _), (22, _)] (fun (k : Nat) (to : Nat) (r1 : F) => S) (fun (k : Nat) (to : Nat) (r1 : F) => ks.num - k) 0 (a + 1) ks ⟨by omega, hpk, Nat.le_refl _⟩ (by exact Sub.cons rfl (Sub.cons' rfl (by congr 1; omega) .nil)) sbA hzB ?_
   rintro k to r1 ⟨hkr, hpr, hto⟩
   refine cR fun _ hK11 => ?_
   by_cases hkl : (k : Int) < x.kids
   ·obtain ⟨y, ks1, r2, rfl⟩ : ∃ y ks1 r2, r1 = F.nd y ks1 r2 := by cases r1 with | nil => simp [F.num] at hkr; omega | nd y a b => exact ⟨y, a, b, rfl⟩
    obtain ⟨hy, hpy, hpt⟩ := hpr.head
    have hto2 := (List.getElem?_eq_some_iff.1 hy).1
    have hge := hE.2 to y ks1 r2 _ (by omega) hpr
    have hg2 := hpy.le
    refine oS lsT (oZ hK11 (c_seq fun _ hK12 => ?_)); refine cTZ hK12 (c_seq fun _ hK13 => ?_); refine c_block (c_region (oM (oM ?_))); refine oS (s_idx rfl rfl hls (by omega)) ?_; refine oS (s_ld rfl ((hS.rdk hiA).ld to 0 hge rfl (by decide) (by omega))) ?_; refine oA (o_nil (x_block (xZ hK13 (c_region ?_)))); refine oS sD (oM (o_nil ?_)); exact xI (k + 1, to + 1 + ks1.size, r2) ⟨by simp only [F.num] at hkr; dsimp only; omega, hpt, by dsimp only; omega⟩
   ·obtain rfl : r1 = F.nil := by cases r1 with | nil => rfl | nd y a b => simp only [F.num] at hkr; omega
    have hto : to = a + 1 + ks.size := by have := hpr.len; simp [F.size] at this; omega
    subst hto; refine oS lsF (oZ hK11 (c_seq fun _ hK14 => ?_)); refine cF ?_; refine c_exit ?_; refine x_then_exit (x_then_exit (x_block_exit (xZ hK9 (c_region (oM (oM (oM ?_))))))); refine oS (s_idx rfl rfl hls (by omega)) ?_; refine o_stS1 a (a + 1 + ks.size) hS pkA rfl rfl rfl (by omega) (by omega) fun S' hS' => ?_; refine o_nil (x_block (xZ hK7 (c_region (oM ?_)))); refine oS sU (oA (o_nil ?_)); exact x_then (x_inv (a, _, _) ⟨by omega, hS', hE.step hpa⟩ (by first | omega | (dsimp only; omega)) (by exact Sub.cons' rfl (by congr 1; omega) sbA) hzB)
  ·have hc0 : c = 0 := by omega
   refine oS geF (oZ hK6 ?_); refine cF ?_; refine c_exit ?_; refine x_then_exit (x_then_exit (x_block_exit (xZ hK3 (cR fun _ hK15 => ?_)))); refine oM (oA (oZ hK15 (c_ret ?_))); refine ?_; exact xR rfl rfl (⟨b8, l, rfl, hS, by rw [hc0] at hE; exact hE⟩)
end Go.Proofs.YtloepfcndglmmaaDoor
