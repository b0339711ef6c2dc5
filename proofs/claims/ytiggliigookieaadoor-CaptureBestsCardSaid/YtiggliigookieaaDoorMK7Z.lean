/- What the laws ask of the groups; the known run. Conditions: none. -/
import Derived.Test.YtiggliigookieaaDoorMK1Z
import Derived.Test.YtiggliigookieaaDoorHlB
import Derived.Test.YtiggliigookieaaDoorMT8Z
import Derived.Test.YtiggliigookieaaDoorQN21Z
namespace Go.HL.Kl.Mc
open Go Go.HL Go.HL.Kl AskE
def catC : Nd := ⟨4, 0, 0, 0, 0, 2⟩
def grpC : Nd := ⟨7, 0, 1, 0, 0, 1⟩
def reC : List Nd := [catC, grpC, starN, letN 97, letN 98]
def ksG : F := .nd starN ksW .nil
def ksB : F := .nd (letN 98) .nil .nil
def ksC : F := .nd grpC ksG ksB
def wC : List UInt8 := [99, 97, 97, 98]
theorem shpC : Shp reC catC ksC := ⟨⟨by decide +kernel, rfl, ⟨by decide +kernel, rfl, wfW, let_ok' 98, rfl, trivial, trivial⟩, trivial⟩, rfl, by decide, by decide +kernel⟩
theorem shapedC : shapedB reC = true := shapedB_iff.2 ⟨⟨[true], by decide +kernel⟩, _, _, shpC⟩
theorem rngC : ∀ x ∈ reC, -128 ≤ x.op ∧ x.op < 128 := by simp [reC, catC, grpC, starN, letN]
theorem refsC : refsB reC = false := refs_no fun j x hj hx h8 => by
  have := List.mem_of_getElem? hx
  simp only [reC, List.mem_cons, List.not_mem_nil, or_false] at this
  rcases this with rfl | rfl | rfl | rfl | rfl <;> cases h8
theorem mayC : May reC wC catC ksC := ⟨shapedC, refsC, shpC⟩
theorem powC {k p q : Nat} (h : pow (der wC ksW false) k p q) : q = p ∨ (1 ≤ p ∧ q ≤ 3) := by
  induction k generalizing p with
  | zero => exact .inl h.symm
  | succ k ih =>
    obtain ⟨m, h1, h2⟩ := h
    obtain ⟨rfl, h3⟩ := der_let.1 (der_one.1 h1)
    have hp : 1 ≤ p ∧ p < 3 := by
      match p, h3 with
      | 0, h3 => cases h3
      | 1, _ => omega
      | 2, _ => omega
      | 3, h3 => cases h3
      | p + 4, h3 => cases h3
    rcases ih h2 with e | e <;> omega
theorem derC {p q : Nat} : der1 wC catC ksC p q ↔ q = 4 ∧ 1 ≤ p ∧ p ≤ 3 := by
  rw [der1_4 (.inl rfl), ksC, der_cat]
  constructor
  · rintro ⟨t, h1, h2⟩
    obtain ⟨rfl, h3⟩ := der_let.1 (der_one.1 h2)
    have ht : t = 3 := by
      match t, h3 with
      | 0, h3 => cases h3
      | 1, h3 => cases h3
      | 2, h3 => cases h3
      | 3, _ => rfl
      | t + 4, h3 => cases h3
    subst ht
    rw [der1_4 (.inr rfl), ksG, der_one, der1_6 rfl] at h1
    obtain ⟨k, _, _, hk⟩ := h1
    rcases powC hk with e | e
    · omega
    · have := pow_up (der_up _ _) _ _ _ hk; omega
  · rintro ⟨rfl, h1, h2⟩
    refine ⟨3, ?_, der_one.2 (der_let.2 ⟨rfl, rfl⟩)⟩
    rw [der1_4 (.inr rfl), ksG, der_one, der1_6 rfl]
    have one : ∀ t, 1 ≤ t → t < 3 → der wC ksW false t (t + 1) := fun t a b => der_one.2 (der_let.2 ⟨rfl, by
      rcases (show t = 1 ∨ t = 2 by omega) with rfl | rfl <;> rfl⟩)
    rcases (show p = 1 ∨ p = 2 ∨ p = 3 by omega) with rfl | rfl | rfl
    · exact ⟨2, by decide, .inl rfl, 2, one 1 (by omega) (by omega), 3, one 2 (by omega) (by omega), rfl⟩
    · exact ⟨1, by decide, .inl rfl, 3, one 2 (by omega) (by omega), rfl⟩
    · exact ⟨0, by decide, .inl rfl, rfl⟩
theorem fgt_plain : ∀ (l : List Nd) (cs : List Sp), (∀ y ∈ l, ¬ y.op = 7) → fgt l cs = cs
  | [], cs, _ => rfl
  | x :: l, cs, h => by
    show fgt l (fg1 cs x) = cs
    rw [fg1, if_neg (h x List.mem_cons_self)]
    exact fgt_plain l cs fun y hy => h y (List.mem_cons_of_mem _ hy)
theorem reps_id {x : Nd} {D : Nat → Nat → Prop} {B : Nat → Nat → List Sp → List Sp} {q : Nat} (hB : ∀ p q cs, B p q cs = cs) : ∀ f r p cs, reps x D B q f r p cs = cs
  | 0, r, p, cs => rfl
  | f + 1, r, p, cs => by
    rw [reps]; split
    · rw [reps_id hB f, hB]
    · rfl
theorem bst1_plain {w : List UInt8} {x : Nd} {ks : F} (hk : ∀ m p q cs, bst w ks m p q cs = cs) (hx : ¬ x.op = 7) (hf : ∀ y ∈ ks.flat, ¬ y.op = 7) {p q : Nat} {cs : List Sp} : bst1 w x ks p q cs = cs := by
  unfold bst1
  rw [if_neg hx]
  split
  · exact hk _ _ _ _
  split
  · exact hk _ _ _ _
  split
  · exact reps_id (fun p q cs => by rw [hk, fgt_plain _ _ hf]) _ _ _ _
  · rfl
theorem bst_plain {w : List UInt8} : ∀ (f : F), (∀ y ∈ f.flat, ¬ y.op = 7) → ∀ (m : Bool) (p q : Nat) (cs : List Sp), bst w f m p q cs = cs
  | .nil, _, m, p, q, cs => bst_nil
  | .nd x ks r, h, m, p, q, cs => by
    have hk : ∀ y ∈ ks.flat, ¬ y.op = 7 := fun y hy => h y (by simp [F.flat, hy])
    have hr : ∀ y ∈ r.flat, ¬ y.op = 7 := fun y hy => h y (by simp [F.flat, hy])
    have h1 : ∀ p q cs, bst1 w x ks p q cs = cs := fun p q cs => bst1_plain (fun m p q cs => bst_plain ks hk m p q cs) (h x (by simp [F.flat])) hk
    cases m with
    | true =>
      rw [bst_alt, h1]; split
      · rfl
      · exact bst_plain r hr true p q cs
    | false =>
      conv => lhs; rw [bst]
      show bst w r false _ q (bst1 w x ks p _ cs) = cs
      rw [h1, bst_plain r hr]
theorem capsC {p : Nat} (h1 : 1 ≤ p) (h2 : p ≤ 3) : capsV wC reC catC ksC p 4 = [⟨p, 4⟩, ⟨p, 3⟩] := by
  have hd := (derC (p := p) (q := 4)).2 ⟨rfl, h1, h2⟩
  have hg : der1 wC grpC ksG p 3 := by
    obtain ⟨t, a, b⟩ := der_cat.1 ((der1_4 (.inl rfl)).1 hd)
    have := (der_let.1 (der_one.1 b)).1
    obtain rfl : t = 3 := by omega
    exact a
  have hG : Grt (fun n => der1 wC grpC ksG p n ∧ der wC ksB false n 4) p 4 3 := ⟨h2, by decide, ⟨hg, der_one.2 (der_let.2 ⟨rfl, rfl⟩)⟩, fun n a b ⟨_, c⟩ => by
    have := (der_let.1 (der_one.1 c)).1; omega⟩
  have e1 : gcn reC + 1 = 2 := by decide +kernel
  rw [capsV, e1, bst1_4 rfl, ksC, bst_cat hG, bst_plain ksB (by simp [ksB, F.flat, letN]), bst1_7 rfl, bst_plain ksG (by simp [ksG, ksW, F.flat, letN, starN]), fgt_plain _ _ (by simp [ksG, ksW, F.flat, letN, starN])]
  rfl
theorem findC {T : Nat} {v : Value} {S' : Hp} (h : FindP T reC wC 0 v S') : ∃ a cc, v = .tuple #[.slice a 2 cc, .bool true] ∧ OwnS Esp 2 T (.slice a 2 cc) [⟨1, 4⟩, ⟨1, 3⟩] S' := by
  rcases h with ⟨x, ks, g, p, q, hm, hg, hl, a, cc, hv, hO⟩ | ⟨hn, _⟩
  · obtain ⟨rfl, rfl⟩ := hm.hs.uniq shpC
    obtain ⟨rfl, h1, h2⟩ := derC.1 hl.der
    obtain rfl : g = 0 := by omega
    have hp : p = 1 := by
      rcases Nat.lt_or_ge 1 p with h | h
      · exact absurd (derC.2 ⟨rfl, by decide, by decide⟩) (hl.left 1 4 (by decide) h (by decide))
      · omega
    subst hp
    rw [capsC (by decide) (by decide)] at hv hO
    exact ⟨a, cc, hv, hO⟩
  · exact absurd ⟨catC, ksC, 0, 1, 4, mayC, rfl, by decide, by decide, derC.2 ⟨rfl, by decide, by decide⟩⟩ hn
theorem bestC {T : Nat} {v : Value} {S' : Hp} (h : BestP T reC wC 2 4 v S') : ∃ a cc, v = .tuple #[.slice a 2 cc, .bool true] ∧ OwnS Esp 2 T (.slice a 2 cc) [⟨2, 4⟩, ⟨2, 3⟩] S' := by
  rcases h with ⟨x, ks, p, q, hm, hp, hq, _, _, hd, a, cc, hv, hO⟩ | ⟨hn, _⟩
  · obtain ⟨rfl, rfl⟩ := hm.hs.uniq shpC
    obtain rfl : p = 2 := by omega
    obtain rfl : q = 4 := by omega
    rw [capsC (by decide) (by decide)] at hv hO
    exact ⟨a, cc, hv, hO⟩
  · exact absurd ⟨catC, ksC, 2, 4, mayC, rfl, rfl, by decide, by decide, derC.2 ⟨rfl, by decide, by decide⟩⟩ hn
theorem En_catC : En catC = [.int .i8 4, .int .u64 0, .int .u64 0, .int .u64 0, .int .u64 0, .int .i64 0, .int .i64 0, .int .i64 0, .int .i64 2] := by
  show _ :: (Ec 0#256 ++ _) = _
  rw [Ec_zero]; rfl
theorem En_grpC : En grpC = [.int .i8 7, .int .u64 0, .int .u64 0, .int .u64 0, .int .u64 0, .int .i64 1, .int .i64 0, .int .i64 0, .int .i64 1] := by
  show _ :: (Ec 0#256 ++ _) = _
  rw [Ec_zero]; rfl
end Go.HL.Kl.Mc

/- Spans compared. Conditions: none. -/
namespace Go.HL.Kl.Mc
open Go Go.HL Go.HL.Kl
section
variable {P : Program} {κ : Cx} {L : Loc} {H : Hp} {ty t t' : TypeId} {x y : Operand}
theorem sp_fq {e : Nat} [TU P e (.int .i64)] [TG P e true] (w : World) (p q : Sp) : FQ P w 9998 (Esp p).toArray (Esp q).toArray [(e, 0), (e, 1)] (decide (p = q)) := by
  have h : FQ P w 9998 (Esp p).toArray (Esp q).toArray [(e, 0), (e, 1)] _ :=
    .int (j := .i64) (p := p.fr) (q := q.fr) rfl rfl (.int (j := .i64) (p := p.to) (q := q.to) rfl rfl .nil)
  have e : (p.fr == q.fr && (p.to == q.to && true)) = decide (p = q) := by
    cases p; cases q
    simp only [Sp.mk.injEq, Bool.and_true]
    rw [Bool.eq_iff_iff]
    simp
  rw [← e]; exact h
theorem s_eql_sp {e : Nat} [EG P t] [TU P e (.int .i64)] [TG P e true] [TQ P t [(e, 0), (e, 1)]] {p q : Sp} (hx : ev L x = some (.agg (Esp p).toArray)) (hy : ev L y = some (.agg (Esp q).toArray)) : Step P κ (.binOp .eql t x y t') ty L H (.bool (decide (p = q))) :=
  s_eql_st hx hy fun w => sp_fq w p q
theorem s_neq_sp {e : Nat} [EG P t] [TU P e (.int .i64)] [TG P e true] [TQ P t [(e, 0), (e, 1)]] {p q : Sp} (hx : ev L x = some (.agg (Esp p).toArray)) (hy : ev L y = some (.agg (Esp q).toArray)) : Step P κ (.binOp .neq t x y t') ty L H (.bool (!decide (p = q))) :=
  s_neq_st hx hy fun w => sp_fq w p q
end
end Go.HL.Kl.Mc

/- A slice out of the middle of one. Conditions: none. -/
namespace Go.HL
open Go
def midA (a : Option Addr) (c lo k : Nat) : Option Addr := if c = lo then a else a.map (·.add (lo * k))
section
variable {P : Program} {κ : Cx} {L : HL.Loc} {H : Hp} {ty t : TypeId} {x y z : Operand}
/-- 's[l:h]' -/
theorem s_slice_mid {e s by' n c : Nat} {a : Option Addr} {kl kh : IntKind} {l h : Int} [TU P t (.slice e)] [TI P e s by'] (hx : ev L x = some (.slice a n c)) (hy : ev L y = some (.int kl l)) (hz : ev L z = some (.int kh h)) (hb : 0 ≤ l ∧ l ≤ h ∧ h ≤ c) :
    Step P κ (.slice t x (some y) (some z) none) ty L H (.slice (midA a c l.toNat s) (h.toNat - l.toNat) (c - l.toNat)) :=
  ⟨fun ρ w d pos af g hρ _ => by
    have b1 : 0 ≤ h ∧ h ≤ c := by omega
    have b2 : 0 ≤ l ∧ l ≤ (h.toNat : Int) := by omega
    have b3 : 0 ≤ l ∧ l ≤ max h 0 := by omega
    have e2 : (Instr.slice t (.slice a n c) (some (.int kl l)) (some (.int kh h)) none).run P w = .ok (.slice (midA a c l.toNat s) (h.toNat - l.toNat) (c - l.toNat)) w := by
      simp [Instr.slice, run_u, Instr.sliceBounds, Instr.sliceBound, asIntOf, b1, b2, b3, run_size, midA]
    simp [execOp, hρ _ _ hx, hρ _ _ hy, hρ _ _ hz, Instr.sliceAt, run_u, e2]⟩
end
theorem flat_mid {α : Type} (E : α → List Value) {k : Nat} [h : Enc E k] (xs : List α) (lo m : Nat) {j : Nat} {u : Value} (hu : (flat E ((xs.drop lo).take m))[j]? = some u) : (flat E xs)[lo * k + j]? = some u := by
  have e : xs = xs.take lo ++ ((xs.drop lo).take m ++ (xs.drop lo).drop m) := by rw [List.take_append_drop, List.take_append_drop]
  have hj : j < (flat E ((xs.drop lo).take m)).length := by
    rcases Nat.lt_or_ge j (flat E ((xs.drop lo).take m)).length with h' | h'
    · exact h'
    · rw [List.getElem?_eq_none h'] at hu; cases hu
  rcases Nat.lt_or_ge lo xs.length with hl | hl
  · rw [e, flat_append, flat_append]
    have hlen : (flat E (xs.take lo)).length = lo * k := by rw [flat_len, List.length_take, Nat.min_eq_left (by omega)]
    rw [List.getElem?_append_right (by omega), hlen, Nat.add_sub_cancel_left, List.getElem?_append_left hj]
    exact hu
  · rw [List.drop_of_length_le hl] at hj; simp [flat] at hj
theorem Rd.mid {α : Type} {E : α → List Value} {k : Nat} [he : Enc E k] {w : World} {a : Option Addr} {n c : Nat} {xs : List α} (h : Rd E w (.slice a n c) xs) (lo hi : Nat) (h1 : lo ≤ hi) (h2 : hi ≤ xs.length) :
    Rd E w (.slice (midA a c lo k) ((xs.drop lo).take (hi - lo)).length (c - lo)) ((xs.drop lo).take (hi - lo)) := by
  have hs := h.sl
  obtain ⟨⟨a', c', hv, hn, h0, hsp⟩, hle⟩ := hs
  simp only [Value.slice.injEq] at hv
  obtain ⟨rfl, rfl, rfl⟩ := hv
  have hlen : ((xs.drop lo).take (hi - lo)).length = hi - lo := by simp; omega
  have hA : ∀ A, midA a c lo k = some A → hi - lo ≠ 0 → A.spot = none := by
    intro A hA hz
    unfold midA at hA
    rw [if_neg (by omega)] at hA
    cases a with
    | none => cases hA
    | some B =>
      have := hsp B rfl (by omega)
      simp only [Option.map_some, Option.some.injEq] at hA
      subst hA
      unfold Addr.add
      split
      · exact this
      · rfl
  refine ⟨⟨⟨_, _, rfl, by rw [hlen]; omega, fun hm => ?_, fun A hA' hz => hA A hA' (by rw [hlen] at hz; exact hz)⟩, by rw [hlen]; omega⟩, fun j u hu => ?_⟩
  · unfold midA at hm
    split at hm
    · have := h0 hm; omega
    · cases a with
      | none => have := h0 rfl; omega
      | some B => cases hm
  · have hne : hi - lo ≠ 0 := by
      intro e
      rw [e, List.take_zero] at hu
      simp [flat] at hu
    have hg := h.get (lo * k + j) u (flat_mid E xs lo (hi - lo) hu)
    have e : ea (.slice (midA a c lo k) ((xs.drop lo).take (hi - lo)).length (c - lo)) j = ea (.slice a xs.length c) (lo * k + j) := by
      unfold midA
      rw [if_neg (by omega)]
      cases a with
      | none => have := h0 rfl; omega
      | some B =>
        simp only [ea, sblk, soff, Option.map_some, oblk, ooff]
        unfold Addr.add
        split
        · rename_i hz; rw [hz, Nat.zero_add]
        · simp only [Nat.add_assoc]
    rw [e]
    exact hg
end Go.HL

/- The document's walk through the best derivation. Conditions: none. -/
namespace Go.HL.Kl.Mc
open Go Go.HL Go.HL.Kl AskE
theorem hin_app {A B H : Hp} (h : HIn A H) (h' : HIn B H) : HIn (A ++ B) H := fun p hp => by
  rcases List.mem_append.1 hp with hp | hp
  · exact h p hp
  · exact h' p hp
structure WalkE where
  (bW : Nat)
  (ra : Option Addr) (rc : Nat) (re : List Nd) (ta : Option Addr) (tc : Nat) (tx : List UInt8) (ca : Option Addr) (N cc : Nat)
namespace WalkE
abbrev vre (K : WalkE) : Value := .slice K.ra K.re.length K.rc
abbrev vtx (K : WalkE) : Value := .slice K.ta K.tx.length K.tc
abbrev vca (K : WalkE) : Value := .slice K.ca K.N K.cc
abbrev cells (K : WalkE) : List Value := [K.vre, K.vtx, K.vca]
end WalkE
structure EnvW (w : World) (K : WalkE) (M : List Nat) : Prop where
  p1 : RdP w K.bW 0 K.cells
  d1 : Rd En w K.vre K.re
  d2 : Rd Eb w K.vtx K.tx
  n1 : K.bW ∉ M
  a1 : Apart M K.vre
  a2 : Apart M K.vtx
structure WalkE.ok (K : WalkE) : Prop where
  rng : ∀ x ∈ K.re, -128 ≤ x.op ∧ x.op < 128
  no8 : ∀ x ∈ K.re, ¬ x.op = 8
  len : K.re.length ≤ 1000000
  tx : K.tx.length ≤ 1000000
theorem EnvW.sub {w0 w : World} {K : WalkE} {M : List Nat} {H S : Hp} (h : EnvW w0 K M) (st : St w0 w M H) (hin : HIn S H) : EnvW w K (keys S) :=
  ⟨(RdPK.old (κ := ⟨0, [], w0, M⟩) (H := H) h.p1 h.n1).out w st, (RdK.old (κ := ⟨0, [], w0, M⟩) (H := H) h.d1 h.a1).out w st, (RdK.old (κ := ⟨0, [], w0, M⟩) (H := H) h.d2 h.a2).out w st,
    st.notin hin h.p1 (by simp) h.n1, st.apart_M hin h.d1 h.a1 (by decide), st.apart_M hin h.d2 h.a2 (by decide)⟩
theorem EnvW.make {w0 w : World} {K : WalkE} {H S R : Hp} {t1 : Nat} (st : St w0 w [] H) (hpk : Pick H S R) (h1 : Rd En w0 K.vre K.re) (h2 : Rd Eb w0 K.vtx K.tx) (m1 : (K.bW, .cells K.cells.toArray t1 (0, 0)) ∈ R) : EnvW w K (keys S) := by
  have st' := st.perm hpk.perm
  have hs : HIn S H := fun p h => hpk.perm.mem_iff.2 (List.mem_append.2 (.inl h))
  exact ⟨(RdPK.own (κ := ⟨0, [], w0, []⟩) (List.mem_append.2 (.inr m1))).out w st', (RdK.old (κ := ⟨0, [], w0, []⟩) (H := H) h1 .nil).out w st, (RdK.old (κ := ⟨0, [], w0, []⟩) (H := H) h2 .nil).out w st,
    St.ne st hpk m1, st.apart_old hs h1 (by decide), st.apart_old hs h2 (by decide)⟩
def BestK (P : Program) (K : WalkE) (fn T : Nat) (x : Nd) (ks : F) : Prop := ∀ (i i1 p q : Nat) (cs : List Sp) (Sc : Hp), Part K.re (.nd x ks .nil) i i1 → p ≤ q → q ≤ K.tx.length → der1 K.tx x ks p q → cs.length = K.N → Slots K.re K.N → OwnS Esp 2 T K.vca cs Sc →
  Fn P fn [pt K.bW, .int .i64 i, .int .i64 p, .int .i64 q] (fun W => EnvW W K (keys Sc)) Sc (fun _ S' => OwnS Esp 2 T K.vca (bst1 K.tx x ks p q cs) S')
/-- a list that reads so while a part of the heap stays -/
theorem OutP.rds {N : Nat} {S : Nat → Prop} {vf v : Value} {fr : List Bool} {S0 S' : Hp} (h : OutP N S vf fr v S') (hf : RdS Ebo vf fr S0) : ∃ a c l, v = .slice a l.length c ∧ IsS l N S ∧ RdS Ebo (.slice a l.length c) l (S' ++ S0) := by
  obtain ⟨a, c, l, rfl, hi, hr⟩ := h
  exact ⟨a, c, l, rfl, hi, ⟨fun W hW => hr W (fun b o hm => hW b o (List.mem_append_left _ hm)) (hf.out W fun b o hm => hW b o (List.mem_append_right _ hm))⟩⟩
theorem pow_drop {D : Nat → Nat → Prop} (hu : Up D) : ∀ {k p q : Nat}, pow D (k + 1) p q → q - p < k + 1 → pow D k p q
  | 0, p, q, ⟨m, h1, h2⟩, hk => by
    have a := hu _ _ h1
    have e : m = q := h2
    have : p = q := by omega
    exact this
  | k + 1, p, q, ⟨m, h1, h2⟩, hk => by
    have a := hu _ _ h1
    by_cases e : m = p
    · subst e; exact h2
    · exact ⟨m, h1, pow_drop hu h2 (by omega)⟩
/-- few rounds are enough -/
theorem RR_few {x : Nd} {D : Nat → Nat → Prop} (hu : Up D) {r p q N : Nat} (hq : q ≤ N) (h : RR x D r p q) : ∃ k : Nat, k ≤ x.mn.toNat + N ∧ x.mn ≤ ((r + k : Nat) : Int) ∧ (x.mx = -1 ∨ ((r + k : Nat) : Int) ≤ x.mx) ∧ pow D k p q := by
  obtain ⟨k, h1, h2, h3⟩ := h
  induction k with
  | zero => exact ⟨0, by omega, h1, h2, h3⟩
  | succ k ih =>
    by_cases hk : k + 1 ≤ x.mn.toNat + N
    · exact ⟨k + 1, hk, h1, h2, h3⟩
    · exact ih (by omega) (by omega) (pow_drop hu h3 (by omega))
theorem RQ_cap {x : Nd} {D : Nat → Nat → Prop} {r s p q m : Nat} (h1 : x.mx = -1) (h2 : max x.mn.toNat 1 ≤ r) (h3 : max x.mn.toNat 1 ≤ s) : RQ x D r p q m ↔ RQ x D s p q m := by
  unfold RQ
  rw [RR_cap (r := r + 1) (s := s + 1) h1 (by omega) (by omega)]
  constructor
  · rintro ⟨_, b, c, d⟩; exact ⟨.inl h1, by omega, c, d⟩
  · rintro ⟨_, b, c, d⟩; exact ⟨.inl h1, by omega, c, d⟩
/-- rounds counted, and rounds that count -/
def CapR (x : Nd) (r s : Nat) : Prop := r = s ∨ (x.mx = -1 ∧ max x.mn.toNat 1 ≤ r ∧ s = max x.mn.toNat 1)
theorem CapR.rq {x : Nd} {D : Nat → Nat → Prop} {r s p q m : Nat} (h : CapR x r s) : RQ x D r p q m ↔ RQ x D s p q m := by
  rcases h with rfl | ⟨h1, h2, rfl⟩
  · exact Iff.rfl
  · exact RQ_cap h1 h2 (Nat.le_refl _)
theorem CapR.next {x : Nd} {r s : Nat} (h : CapR x r s) (hv : (x.mx = -1 ∧ s ≤ max x.mn.toNat 1) ∨ (0 ≤ x.mx ∧ (s : Int) ≤ x.mx)) : CapR x (r + 1) (nxtR x s) := by
  unfold CapR nxtR
  unfold CapR at h
  split
  · omega
  · omega
end Go.HL.Kl.Mc

/- Part of the proofs over this seat: see the text that holds the theorem. Conditions: each theorem bears its own. -/
namespace Go.Proofs.YtiggliigookieaaDoor
open Go Go.HL Go.Proofs Go.HL.Kl Go.HL.Kl.Mc Go.HL.Kl.Mc.AskE
theorem behind10_fn (ra : Option Addr) (rc : Nat) (re : List Nd) (x : Nd) (ks : F) (i i1 : Nat) (hp : Part re (.nd x ks .nil) i i1) : HL.Fn Tryd.prog 69 [.slice ra re.length rc, .int .i64 i] (fun w => Rd En w (.slice ra re.length rc) re) [] (fun v _ => v = .int .i64 i1) := by
  refine fn_of Tryd.func69 rfl rfl rfl fun w0 hw => ?_
  have hsl := hw.sl
  have hbl := hsl.le
  refine c_seq fun _ hK1 => ?_
  refine c_region ?_
  refine o_step rfl (s_assign rfl) ?_
  refine o_nil ?_
  refine x_then (hK1 _ _ ?_)
  refine c_seq fun _ hK2 => ?_
  refine c_region ?_
  refine o_step rfl (s_assign rfl) ?_
  refine o_nil ?_
  refine x_then (hK2 _ _ ?_)
  refine c_seq fun _ hK3 => ?_
  refine c_block ?_
  refine c_loop2 (fun (g : F) (p : Nat) => Part re g p i1) (fun (g : F) (p : Nat) => [(5, .int .i64 g.num), (1, .int .i64 p)]) [(0, _), (4, _)] (fun (g : F) (p : Nat) => _) (fun (g : F) (p : Nat) => i1 - p) (.nd x ks .nil) i hp (by exact Sub.cons' rfl (by rw [F.num, F.num]; rfl) sbA) sbA hzB ?_
  rintro g p hpg
  have hgl := hpg.len
  have hgle := hpg.le
  have hgn := F.num_le g
  refine c_seq fun _ hK4 => ?_
  refine c_seq fun _ hK5 => ?_
  refine c_region ?_
  refine o_step rfl (s_move rfl) ?_
  by_cases hg : (g.num : Int) > 0
  ·
   obtain ⟨y, js, r, rfl⟩ : ∃ y js r, g = F.nd y js r := by cases g with | nil => simp [F.num] at hg | nd y a b => exact ⟨y, a, b, rfl⟩
   have hy := hpg.head.1
   have hyl := (List.getElem?_eq_some_iff.1 hy).1
   have hkn : (js.num : Int) = y.kids := hpg.wf.2.1
   have hjn := F.num_le js
   simp only [F.num] at hg hgn ⊢
   simp only [F.size] at hgl hgn
   refine o_step rfl (step_cast (v' := .bool true) (s_gtr rfl rfl) (by rw [decide_eq_true (by omega)])) ?_
   refine o_nil ?_
   refine x_then (hK5 _ _ ?_)
   refine c_true rfl ?_
   refine c_skip ?_
   refine x_then (hK4 _ _ ?_)
   refine c_block ?_
   refine c_seq fun _ hK6 => ?_
   refine c_region ?_
   refine o_step rfl (s_move rfl) ?_
   refine o_step rfl (s_sub rfl rfl (by omega)) ?_
   refine o_step rfl (s_move rfl) ?_
   refine o_step rfl (s_move rfl) ?_
   refine o_step rfl (s_idx rfl rfl hsl (by omega)) ?_
   refine o_step rfl (s_field rfl rfl (by decide)) ?_
   refine o_step rfl (s_ld rfl ((RdK.old0 hw).ld p 8 hy rfl (by decide) (by omega))) ?_
   refine o_step rfl (s_add rfl rfl (by omega)) ?_
   refine o_step rfl (s_assign rfl) ?_
   refine o_nil ?_
   refine x_then (hK6 _ _ ?_)
   refine c_region ?_
   refine o_step rfl (s_move rfl) ?_
   refine o_step rfl (s_add rfl rfl (by omega)) ?_
   refine o_step rfl (s_assign rfl) ?_
   refine o_nil ?_
   refine x_block ?_
   exact x_then (x_inv ((js.app r), p + 1) hpg.down (by dsimp only; omega) (by exact Sub.cons' rfl (by rw [F.num_app, ← hkn]; congr 1; omega) sbA) hzB)
  ·
   obtain rfl : g = F.nil := F.num_nil (by omega)
   simp only [F.size] at hgl
   refine o_step rfl (step_cast (v' := .bool false) (s_gtr rfl rfl) (by rw [decide_eq_false (by omega)])) ?_
   refine o_nil ?_
   refine x_then (hK5 _ _ ?_)
   refine c_false rfl ?_
   refine c_exit ?_
   refine x_then_exit ?_
   refine x_then_exit ?_
   refine x_block_exit ?_
   refine x_then (hK3 _ _ ?_)
   refine c_seq fun _ hK7 => ?_
   refine c_region ?_
   refine o_step rfl (s_move rfl) ?_
   refine o_step rfl (s_assign rfl) ?_
   refine o_nil ?_
   refine x_then (hK7 _ _ ?_)
   refine c_ret ?_
   refine ?_
   exact x_ret rfl (.tmp rfl (.nil)) ((congrArg (Value.int .i64) (by omega)))

theorem one10_fn (K : WalkE) (hK : K.ok) (p : Nat) (hp : p ≤ K.tx.length) : HL.Fn Tryd.prog 83 [pt K.bW, .int .i64 p] (fun W => EnvW W K []) [] (fun v S' => ∃ a c l, v = .slice a l.length c ∧ IsS l K.tx.length (fun t => t = p) ∧ RdS Ebo (.slice a l.length c) l S') := by
  refine fn_of Tryd.func83 rfl rfl rfl fun w0 hw => ?_
  have htl := hK.tx
  have h1 := IsS.one hp
  refine c_seq fun _ hK1 => ?_
  refine c_region ?_
  refine o_step rfl (s_assign rfl) ?_
  refine o_nil ?_
  refine x_then (hK1 _ _ ?_)
  refine c_seq fun _ hK2 => ?_
  refine c_region ?_
  refine o_step rfl (s_move rfl) ?_
  refine o_step rfl (s_nil rfl) ?_
  refine o_step rfl (s_field rfl rfl (by decide)) ?_
  refine o_step rfl (s_ld rfl ((RdPK.old hw.p1 hw.n1).cel (j := 1) rfl rfl)) ?_
  refine o_step rfl (s_len rfl) ?_
  refine o_step rfl (s_add rfl rfl (by omega)) ?_
  refine o_make (E := Ebo) (zx := false) (n := K.tx.length + 1) rfl rfl rfl (by omega) (by omega) rfl fun b12 S12 hS12 => ?_
  have hs12 := hS12.sl
  rw [List.length_replicate] at hs12
  refine o_step rfl (s_assign rfl) ?_
  refine o_nil ?_
  refine x_then (hK2 _ _ ?_)
  refine c_seq fun _ hK3 => ?_
  refine c_region ?_
  refine o_step rfl (s_move rfl) ?_
  refine o_step rfl (s_move rfl) ?_
  refine o_step rfl (s_idx rfl rfl hs12 (by omega)) ?_
  refine o_stS1 p true hS12 pkA rfl rfl rfl (by rw [List.length_replicate]; omega) (by omega) fun S' hS' => ?_
  refine o_nil ?_
  refine x_then (hK3 _ _ ?_)
  refine c_seq fun _ hK4 => ?_
  refine c_region ?_
  refine o_step rfl (s_move rfl) ?_
  refine o_step rfl (s_assign rfl) ?_
  refine o_nil ?_
  refine x_then (hK4 _ _ ?_)
  refine c_ret ?_
  refine ?_
  refine x_sub (Sub.refl _) (H' := S') hzB ?_
  obtain ⟨L, hL⟩ : ∃ L, L = (List.replicate (K.tx.length + 1) false).set p true := ⟨_, rfl⟩
  rw [← hL] at hS' h1
  have hl : L.length = K.tx.length + 1 := by rw [hL]; simp
  exact x_ret rfl (.tmp rfl (.nil)) (⟨some ⟨b12, 0, none⟩, K.tx.length + 1, L, by rw [hl]; rfl, h1, by rw [hl]; exact hS'.rds⟩)

theorem overW_fn (w : List UInt8) (x : Nd) (ks : F) (ra : Option Addr) (rc : Nat) (re : List Nd) (ta : Option Addr) (tc i1 : Nat) (fa : Option Addr) (fc : Nat) (fr : List Bool) (S : Nat → Prop) (hre : ∀ x ∈ re, -128 ≤ x.op ∧ x.op < 128) (hr8 : ∀ x ∈ re, ¬ x.op = 8) (hwl : w.length ≤ 1000000) (hp : Part re (.nd x ks .nil) 0 i1) (hS : IsS fr w.length S) (hSb : ∀ p, S p → p ≤ w.length) : HL.Fn Tryd.prog 89 [.slice ra re.length rc, .slice ta w.length tc, .slice fa fr.length fc] (fun W => Rd En W (.slice ra re.length rc) re ∧ Rd Eb W (.slice ta w.length tc) w ∧ Rd Ebo W (.slice fa fr.length fc) fr) [] (OutP w.length (img (der1 w x ks) S) (.slice fa fr.length fc) fr) := by
  refine fn_of Tryd.func89 rfl rfl rfl fun w0 hw => ?_
  refine c_seq fun _ hK1 => ?_
  refine c_region ?_
  refine o_step rfl (s_assign rfl) ?_
  refine o_nil ?_
  refine x_then (hK1 _ _ ?_)
  refine c_seq fun _ hK2 => ?_
  refine c_region ?_
  refine o_step rfl (s_move rfl) ?_
  refine o_step rfl (s_move rfl) ?_
  refine o_step rfl (s_move rfl) ?_
  refine o_call (over_fn w (ks.size + 1) x ks (by omega) ra rc re ta tc 0 i1 fa fc fr S hre hr8 hwl hp hS hSb) rfl rfl rfl (by exact .nil) (fun w2 st => ⟨(RdK.old0 hw.1).out w2 st, (RdK.old0 hw.2.1).out w2 st, (RdK.old0 hw.2.2).out w2 st⟩) (fun v10 S10 hv10 => ?_)
  refine o_step rfl (s_assign rfl) ?_
  refine o_nil ?_
  refine x_then (hK2 _ _ ?_)
  refine c_ret ?_
  refine ?_
  refine x_sub (Sub.refl _) (H' := S10) hzB ?_
  exact x_ret rfl (.tmp rfl (.nil)) (hv10)

set_option maxHeartbeats 1000000 in
theorem over10_fn (K : WalkE) (hK : K.ok) (x : Nd) (ks : F) (i i1 : Nat) (hp : Part K.re (.nd x ks .nil) i i1) (fa : Option Addr) (fc : Nat) (fr : List Bool) (S : Nat → Prop) (hS : IsS fr K.tx.length S) (hSb : ∀ p, S p → p ≤ K.tx.length) : HL.Fn Tryd.prog 84 [pt K.bW, .int .i64 i, .slice fa fr.length fc] (fun W => EnvW W K [] ∧ Rd Ebo W (.slice fa fr.length fc) fr) [] (OutP K.tx.length (img (der1 K.tx x ks) S) (.slice fa fr.length fc) fr) := by
  refine fn_of Tryd.func84 rfl rfl rfl fun w0 hw => ?_
  have hfl : (K.re.drop i).take (i1 - i) = (F.nd x ks .nil).flat := by rw [hp.flat, show i1 - i = (F.nd x ks .nil).flat.length by have := hp.len; rw [F.flat_size]; omega, List.take_left' rfl]
  have hmid := hw.1.d1.mid i i1 (by have := hp.len; omega) hp.le
  rw [hfl] at hmid
  have hsub : ∀ z ∈ (F.nd x ks .nil).flat, z ∈ K.re := fun z hz => by rw [← hfl] at hz; exact List.mem_of_mem_drop (List.mem_of_mem_take hz)
  have hlen := hp.len
  have hle := hp.le
  have hfs : (F.nd x ks .nil).flat.length = i1 - i := by rw [F.flat_size]; omega
  have hcap := hw.1.d1.sl.cap
  refine c_seq fun _ hK1 => ?_
  refine c_region ?_
  refine o_step rfl (s_assign rfl) ?_
  refine o_nil ?_
  refine x_then (hK1 _ _ ?_)
  refine c_seq fun _ hK2 => ?_
  refine c_region ?_
  refine o_step rfl (s_move rfl) ?_
  refine o_step rfl (s_nil rfl) ?_
  refine o_step rfl (s_field rfl rfl (by decide)) ?_
  refine o_step rfl (s_ld rfl ((RdPK.old hw.1.p1 hw.1.n1).cel (j := 0) rfl rfl)) ?_
  refine o_step rfl (s_move rfl) ?_
  refine o_callP (behind10_fn K.ra K.rc K.re x ks i _ hp) rfl rfl rfl (fun w2 st => (RdK.old hw.1.d1 hw.1.a1).out w2 st) (fun v13 hv13 => ?_)
  subst hv13
  refine o_step rfl (s_assign rfl) ?_
  refine o_nil ?_
  refine x_then (hK2 _ _ ?_)
  refine c_seq fun _ hK3 => ?_
  refine c_drawE ([]) (fun i => false) ?_
  refine e_take 0 rfl (by kernel_rfl) (by kernel_rfl) (by kernel_rfl) (by kernel_rfl) (fun _ _ => rfl) rfl (by exact HSub.nil) (s_move rfl) ?_
  refine e_take 1 rfl (by kernel_rfl) (by kernel_rfl) (by kernel_rfl) (by kernel_rfl) (fun _ _ => rfl) rfl (by exact HSub.nil) (s_nil rfl) ?_
  refine e_take 2 rfl (by kernel_rfl) (by kernel_rfl) (by kernel_rfl) (by kernel_rfl) (fun _ _ => rfl) rfl (by exact HSub.nil) (s_field rfl rfl (by decide)) ?_
  refine e_take 3 rfl (by kernel_rfl) (by kernel_rfl) (by kernel_rfl) (by kernel_rfl) (fun _ _ => rfl) rfl (by exact HSub.nil) (s_ld rfl ((RdPK.old hw.1.p1 hw.1.n1).cel (j := 0) rfl rfl)) ?_
  refine e_take 4 rfl (by kernel_rfl) (by kernel_rfl) (by kernel_rfl) (by kernel_rfl) (fun _ _ => rfl) rfl (by exact HSub.nil) (s_move rfl) ?_
  refine e_take 5 rfl (by kernel_rfl) (by kernel_rfl) (by kernel_rfl) (by kernel_rfl) (fun _ _ => rfl) rfl (by exact HSub.nil) (s_move rfl) ?_
  refine e_take 6 rfl (by kernel_rfl) (by kernel_rfl) (by kernel_rfl) (by kernel_rfl) (fun _ _ => rfl) rfl (by exact HSub.nil) (step_cast (v' := .slice (midA K.ra K.rc i 9) (F.nd x ks .nil).flat.length (K.rc - i)) (s_slice_mid rfl rfl rfl (by omega)) (by rw [hfs]; simp only [Int.toNat_natCast])) ?_
  refine e_take 7 rfl (by kernel_rfl) (by kernel_rfl) (by kernel_rfl) (by kernel_rfl) (fun _ _ => rfl) rfl (by exact HSub.nil) (s_move rfl) ?_
  refine e_take 8 rfl (by kernel_rfl) (by kernel_rfl) (by kernel_rfl) (by kernel_rfl) (fun _ _ => rfl) rfl (by exact HSub.nil) (s_nil rfl) ?_
  refine e_take 9 rfl (by kernel_rfl) (by kernel_rfl) (by kernel_rfl) (by kernel_rfl) (fun _ _ => rfl) rfl (by exact HSub.nil) (s_field rfl rfl (by decide)) ?_
  refine e_take 10 rfl (by kernel_rfl) (by kernel_rfl) (by kernel_rfl) (by kernel_rfl) (fun _ _ => rfl) rfl (by exact HSub.nil) (s_ld rfl ((RdPK.old hw.1.p1 hw.1.n1).cel (j := 1) rfl rfl)) ?_
  refine e_take 11 rfl (by kernel_rfl) (by kernel_rfl) (by kernel_rfl) (by kernel_rfl) (fun _ _ => rfl) rfl (by exact HSub.nil) (s_move rfl) ?_
  refine e_one 12 rfl (by kernel_rfl) ?_
  refine o_call (overW_fn K.tx x ks (midA K.ra K.rc i 9) (K.rc - i) (F.nd x ks .nil).flat K.ta K.tc (F.nd x ks .nil).size fa fc fr S (fun z hz => hK.rng z (hsub z hz)) (fun z hz => hK.no8 z (hsub z hz)) hK.tx ⟨hp.wf, by rw [← F.flat_size, List.drop_length, List.append_nil]; rfl, by rw [Nat.zero_add], by rw [F.flat_size]; exact Nat.le_refl _⟩ hS hSb) rfl rfl rfl (by exact .nil) (fun w2 st => ⟨(RdK.old0 hmid).out w2 st, (RdK.old0 hw.1.d2).out w2 st, (RdK.old0 hw.2).out w2 st⟩) (fun v26 S26 hv26 => ?_)
  refine o_nil ?_
  refine x_oneS (by exact HSub.nil) ?_
  refine e_one 13 rfl (by kernel_rfl) ?_
  refine o_step rfl (s_assign rfl) ?_
  refine o_nil ?_
  refine x_oneS (by exact HSub.nil) ?_
  refine e_done (by kernel_rfl) ?_
  refine x_then (hK3 _ _ ?_)
  refine c_ret ?_
  refine ?_
  refine x_sub (Sub.refl _) (H' := S26) hzB ?_
  exact x_ret rfl (.tmp rfl (.nil)) (hv26)

theorem takes10_fn (K : WalkE) (hK : K.ok) (x : Nd) (ks : F) (i i1 : Nat) (hp : Part K.re (.nd x ks .nil) i i1) (p q : Nat) (hpl : p ≤ K.tx.length) (hql : q ≤ K.tx.length) : HL.Fn Tryd.prog 70 [pt K.bW, .int .i64 i, .int .i64 p, .int .i64 q] (fun W => EnvW W K []) [] (fun v _ => v = .bool (dQ (der1 K.tx x ks p q))) := by
  refine fn_of Tryd.func70 rfl rfl rfl fun w0 hw => ?_
  refine c_seq fun _ hK1 => ?_
  refine c_region ?_
  refine o_step rfl (s_assign rfl) ?_
  refine o_nil ?_
  refine x_then (hK1 _ _ ?_)
  refine c_seq fun _ hK2 => ?_
  refine c_region ?_
  refine o_step rfl (s_move rfl) ?_
  refine o_step rfl (s_move rfl) ?_
  refine o_step rfl (s_move rfl) ?_
  refine o_step rfl (s_move rfl) ?_
  refine o_call (one10_fn K hK p hpl) rfl rfl rfl (by exact .nil) (fun w2 st => hw.sub (S := []) st hin_nil) (fun v14 S14 ⟨a14, c14, l14, hv14, hi14, hr14⟩ => ?_)
  subst hv14
  refine o_call (over10_fn K hK x ks i i1 hp a14 c14 l14 (fun t => t = p) hi14 (fun t h => by omega)) rfl rfl rfl (by exact .nil) (fun w2 st => ⟨hw.sub (S := []) st hin_nil, (hr14.rdk hiA).out w2 st⟩) (fun v15 S15 hv15 => ?_)
  obtain ⟨a15, c15, l15, rfl, hi15, hr15⟩ := hv15.rds hr14
  have hll := hi15.len
  have hlq := bo0_get (l := l15) (i := q) (by omega)
  refine o_step rfl (s_assign rfl) ?_
  refine o_nil ?_
  refine x_then (hK2 _ _ ?_)
  refine c_seq fun _ hK3 => ?_
  refine c_knw (p := IsSl (.slice a15 l15.length c15) l15.length) (fun w2 st => ((hr15.rdk (hin_app hiA hiA)).out w2 st).sl) fun hls => ?_
  refine c_region ?_
  refine o_step rfl (s_move rfl) ?_
  refine o_step rfl (s_move rfl) ?_
  refine o_step rfl (s_idx rfl rfl hls (by omega)) ?_
  refine o_step rfl (s_ld rfl ((hr15.rdk (hin_app hiA hiA)).ld q 0 hlq rfl (by decide) (by omega))) ?_
  refine o_step rfl (s_assign rfl) ?_
  refine o_nil ?_
  refine x_then (hK3 _ _ ?_)
  refine c_ret ?_
  refine ?_
  exact x_ret rfl (.tmp rfl (.nil)) ((congrArg Value.bool (dQ_b (bo0_true.trans ((hi15.get q hql).trans ⟨fun ⟨t, h1, h2⟩ => (show t = p from h1) ▸ h2, fun h => ⟨p, rfl, h⟩⟩))).symm))
end Go.Proofs.YtiggliigookieaaDoor

/- Part of the proofs over this seat: see the text that holds the theorem. Conditions: each theorem bears its own. -/
namespace Go.Proofs.YtiggliigookieaaDoor
open Go Go.HL Go.Proofs Go.HL.Kl Go.HL.Kl.Mc Go.HL.Kl.Mc.AskE
set_option maxHeartbeats 1000000 in
theorem rest10_fn (K : WalkE) (hK : K.ok) (x : Nd) (ks : F) (i i1 : Nat) (hp : Part K.re (.nd x ks .nil) i i1) (h6 : x.op = 6) (r p q : Nat) (hr : x.mx = -1 ∨ (r : Int) ≤ x.mx) (hrb : r ≤ 2000000) (hpl : p ≤ K.tx.length) (hql : q ≤ K.tx.length) : HL.Fn Tryd.prog 85 [pt K.bW, .int .i64 i, .int .i64 r, .int .i64 p, .int .i64 q] (fun W => EnvW W K []) [] (fun v _ => v = .bool (dQ (RR x (der K.tx ks false) r p q))) := by
  refine fn_of Tryd.func85 rfl rfl rfl fun w0 hw => ?_
  have hsl := hw.d1.sl
  have hst := hw.d2.sl
  have hrl := hK.len
  have htl := hK.tx
  obtain rfl : i1 = i + 1 + ks.size := by have := hp.len; simp only [F.size] at this; omega
  obtain ⟨hx, hpk, _⟩ := hp.head
  have hilt := (List.getElem?_eq_some_iff.1 hx).1
  have hxm := List.mem_of_getElem? hx
  have hox := hK.rng x hxm
  have hx8 := hK.no8 x hxm
  have hok : ndOk x = true := hp.wf.1
  have hop : 1 ≤ x.op ∧ x.op ≤ 8 := (flds_iff.1 (by simp only [ndOk, Bool.and_eq_true] at hok; exact hok.1)).1
  have hpkl := hpk.le
  have hrg := rep_rng hok h6
  obtain ⟨y, js, hks⟩ := one_kid hp.wf (.inl h6)
  have hD : (der K.tx ks false) = der1 K.tx y js := by rw [hks, der_fone]
  refine c_seq fun _ hK1 => ?_
  refine c_region ?_
  refine o_step rfl (s_assign rfl) ?_
  refine o_nil ?_
  refine x_then (hK1 _ _ ?_)
  refine c_seq fun _ hK2 => ?_
  refine c_region ?_
  refine o_step rfl (s_move rfl) ?_
  refine o_step rfl (s_nil rfl) ?_
  refine o_step rfl (s_field rfl rfl (by decide)) ?_
  refine o_step rfl (s_ld rfl ((RdPK.old hw.p1 hw.n1).cel (j := 0) rfl rfl)) ?_
  refine o_step rfl (s_move rfl) ?_
  refine o_step rfl (s_idx rfl rfl hsl (by omega)) ?_
  refine o_step rfl (s_ldB rfl ((RdK.old hw.d1 hw.a1).lds i hx rfl) (by rfl)) ?_
  refine o_alloc (l := En zN) (by rw [En_zero]; rfl) rfl fun b11 => ?_
  refine o_stW rfl rfl upA lnA lnA onA ?_
  refine o_nil ?_
  refine x_then (hK2 _ _ ?_)
  refine c_seq fun _ hK3 => ?_
  refine c_region ?_
  refine o_step rfl (s_move rfl) ?_
  refine o_step rfl (s_move rfl) ?_
  refine o_call (one10_fn K hK p hpl) rfl rfl rfl (by exact .nil) (fun w2 st => hw.sub (S := []) st hin_nil) (fun v23 S23 ⟨a23, c23, l23, hv23, hi23, hr23⟩ => ?_)
  subst hv23
  refine o_step rfl (s_assign rfl) ?_
  refine o_nil ?_
  refine x_then (hK3 _ _ ?_)
  refine c_seq fun _ hK4 => ?_
  refine c_seq fun _ hK5 => ?_
  refine c_region ?_
  refine o_step rfl (s_assign rfl) ?_
  refine o_nil ?_
  refine x_then (hK5 _ _ ?_)
  refine c_block ?_
  -- not carried: 10
  refine c_loop5 (fun (k : Nat) (a2 : Option Addr) (c2 : Nat) (l2 : List Bool) (S2 : Hp) => (k : Int) ≤ x.mn + K.tx.length + 2 ∧ (x.mx = -1 ∨ ((r + k : Nat) : Int) ≤ x.mx) ∧ (∀ j, j < k → ¬ (x.mn ≤ ((r + j : Nat) : Int) ∧ pow (der K.tx ks false) j p q)) ∧ IsS l2 K.tx.length (fun t => pow (der K.tx ks false) k p t) ∧ RdS Ebo (.slice a2 l2.length c2) l2 S2) (fun (k : Nat) (a2 : Option Addr) (c2 : Nat) (l2 : List Bool) (S2 : Hp) => [(13, .int .i64 k), (12, .slice a2 l2.length c2)]) [(0, _), (1, _), (2, _), (4, _), (11, _)] (fun (k : Nat) (a2 : Option Addr) (c2 : Nat) (l2 : List Bool) (S2 : Hp) => S2 ++ [(b11, .cells (En x).toArray 70 (0, 0))]) (fun (k : Nat) (a2 : Option Addr) (c2 : Nat) (l2 : List Bool) (S2 : Hp) => (x.mn + K.tx.length + 2 - k).toNat) 0 a23 c23 l23 S23 ⟨by omega, by simpa using hr, fun j h => by omega, hi23.iff (fun t _ => ⟨fun h => h.symm, fun h => Eq.symm h⟩), hr23⟩ sbA sbA hzB ?_
  rintro k a2 c2 l2 S2 ⟨hkm, hkx, hno, hi2, hr2⟩
  have hll := hi2.len
  have hlq := bo0_get (l := l2) (i := q) (by omega)
  refine c_seq fun _ hK6 => ?_
  refine c_seq fun _ hK7 => ?_
  refine c_drawE ([(b11, .cells (En x).toArray 70 (0, 0))]) (fun i => false) ?_
  refine e_take 0 rfl (by kernel_rfl) (by kernel_rfl) (by kernel_rfl) (by kernel_rfl) (fun _ _ => rfl) rfl hzB (s_move rfl) ?_
  refine e_take 1 rfl (by kernel_rfl) (by kernel_rfl) (by kernel_rfl) (by kernel_rfl) (fun _ _ => rfl) rfl hzB (s_field rfl rfl (by decide)) ?_
  refine e_take 2 rfl (by kernel_rfl) (by kernel_rfl) (by kernel_rfl) (by kernel_rfl) (fun _ _ => rfl) rfl hzB (s_ld rfl (.own meA rfl)) ?_
  refine e_take 3 rfl (by kernel_rfl) (by kernel_rfl) (by kernel_rfl) (by kernel_rfl) (fun _ _ => rfl) rfl hzB (s_move rfl) ?_
  refine e_take 4 rfl (by kernel_rfl) (by kernel_rfl) (by kernel_rfl) (by kernel_rfl) (fun _ _ => rfl) rfl hzB (s_nil rfl) ?_
  refine e_take 5 rfl (by kernel_rfl) (by kernel_rfl) (by kernel_rfl) (by kernel_rfl) (fun _ _ => rfl) rfl hzB (s_field rfl rfl (by decide)) ?_
  refine e_take 6 rfl (by kernel_rfl) (by kernel_rfl) (by kernel_rfl) (by kernel_rfl) (fun _ _ => rfl) rfl hzB (s_ld rfl ((RdPK.old hw.p1 hw.n1).cel (j := 1) rfl rfl)) ?_
  refine e_take 7 rfl (by kernel_rfl) (by kernel_rfl) (by kernel_rfl) (by kernel_rfl) (fun _ _ => rfl) rfl hzB (s_len rfl) ?_
  refine e_take 8 rfl (by kernel_rfl) (by kernel_rfl) (by kernel_rfl) (by kernel_rfl) (fun _ _ => rfl) rfl hzB (s_add rfl rfl (by omega)) ?_
  refine e_take 9 rfl (by kernel_rfl) (by kernel_rfl) (by kernel_rfl) (by kernel_rfl) (fun _ _ => rfl) rfl hzB (s_add rfl rfl (by omega)) ?_
  by_cases hkb : (k : Int) ≤ x.mn + K.tx.length + 1
  ·
   refine e_take 10 rfl (by kernel_rfl) (by kernel_rfl) (by kernel_rfl) (by kernel_rfl) (fun _ _ => rfl) rfl hzB (step_cast (v' := .bool true) (s_leq rfl rfl) (by rw [decide_eq_true (by omega)])) ?_
   refine e_done (by kernel_rfl) ?_
   refine x_then (hK7 _ _ ?_)
   refine c_true rfl ?_
   refine c_skip ?_
   refine x_then (hK6 _ _ ?_)
   refine c_seq fun _ hK8 => ?_
   refine c_block ?_
   refine c_seq fun _ hK9 => ?_
   refine c_seq fun _ hK10 => ?_
   refine c_knw (p := IsSl (.slice a2 l2.length c2) l2.length) (fun w2 st => ((hr2.rdk hiA).out w2 st).sl) fun hls => ?_
   refine c_region ?_
   refine o_step rfl (s_move rfl) ?_
   refine o_step rfl (s_move rfl) ?_
   refine o_step rfl (s_add rfl rfl (by omega)) ?_
   refine o_step rfl (s_field rfl rfl (by decide)) ?_
   refine o_step rfl (s_ld rfl (.own meA rfl)) ?_
   by_cases hge : (r : Int) + k ≥ x.mn
   ·
    refine o_step rfl (step_cast (v' := .bool true) (s_geq rfl rfl) (by rw [decide_eq_true (by omega)])) ?_
    refine o_step rfl (s_move rfl) ?_
    refine o_yes rfl rfl ?_
    refine o_step rfl (s_move rfl) ?_
    refine o_yes rfl rfl ?_
    refine o_step rfl (s_move rfl) ?_
    refine o_yes rfl rfl ?_
    refine o_step rfl (s_idx rfl rfl hls (by omega)) ?_
    refine o_yes rfl rfl ?_
    by_cases hbt : bo0 l2 q = true
    ·
     refine o_step rfl (step_cast (v' := .bool true) (s_ld rfl ((hr2.rdk hiA).ld q 0 hlq rfl (by decide) (by omega))) (by rw [hbt])) ?_
     refine o_step rfl (s_pick_t rfl rfl) ?_
     refine o_nil ?_
     refine x_then (hK10 _ _ ?_)
     refine c_true rfl ?_
     refine c_seq fun _ hK11 => ?_
     refine c_region ?_
     refine o_step rfl (s_assign rfl) ?_
     refine o_nil ?_
     refine x_then (hK11 _ _ ?_)
     refine c_ret ?_
     refine x_then_ret (x_block_ret (x_then_ret (x_then_ret (x_block_ret (x_then_ret (?_))))))
     exact x_ret rfl (.tmp rfl (.nil)) ((congrArg Value.bool (dQ_t ⟨k, by omega, hkx, (hi2.get q hql).1 (bo0_true.1 hbt)⟩).symm))
    ·
     have hbtf : bo0 l2 q = false := by simpa using hbt
     have hnk : ¬ (x.mn ≤ ((r + k : Nat) : Int) ∧ pow (der K.tx ks false) k p q) := fun h => hbt (bo0_true.2 ((hi2.get q hql).2 h.2))
     refine o_step rfl (step_cast (v' := .bool false) (s_ld rfl ((hr2.rdk hiA).ld q 0 hlq rfl (by decide) (by omega))) (by rw [hbtf])) ?_
     refine o_step rfl (s_pick_t rfl rfl) ?_
     refine o_nil ?_
     refine x_then (hK10 _ _ ?_)
     refine c_false rfl ?_
     refine c_skip ?_
     refine x_then (hK9 _ _ ?_)
     refine c_seq fun _ hK12 => ?_
     refine c_seq fun _ hK13 => ?_
     refine c_region ?_
     refine o_step rfl (s_field rfl rfl (by decide)) ?_
     refine o_step rfl (s_ld rfl (.own meA rfl)) ?_
     by_cases hx1 : x.mx ≠ -1
     ·
      refine o_step rfl (step_cast (v' := .bool true) (s_neq rfl rfl) (by rw [decide_eq_true (by omega)])) ?_
      refine o_step rfl (s_move rfl) ?_
      refine o_yes rfl rfl ?_
      refine o_step rfl (s_move rfl) ?_
      refine o_yes rfl rfl ?_
      refine o_step rfl (s_move rfl) ?_
      refine o_yes rfl rfl ?_
      refine o_step rfl (s_add rfl rfl (by omega)) ?_
      refine o_yes rfl rfl ?_
      refine o_step rfl (s_field rfl rfl (by decide)) ?_
      refine o_yes rfl rfl ?_
      refine o_step rfl (s_ld rfl (.own meA rfl)) ?_
      refine o_yes rfl rfl ?_
      by_cases hx2 : (r : Int) + k ≥ x.mx
      ·
       refine o_step rfl (step_cast (v' := .bool true) (s_geq rfl rfl) (by rw [decide_eq_true (by omega)])) ?_
       refine o_step rfl (s_pick_t rfl rfl) ?_
       refine o_nil ?_
       refine x_then (hK13 _ _ ?_)
       refine c_true rfl ?_
       refine c_seq fun _ hK14 => ?_
       refine c_region ?_
       refine o_step rfl (s_assign rfl) ?_
       refine o_nil ?_
       refine x_then (hK14 _ _ ?_)
       refine c_ret ?_
       refine x_then_ret (x_block_ret (x_then_ret (x_then_ret (x_block_ret (x_then_ret (?_))))))
       exact x_ret rfl (.tmp rfl (.nil)) ((congrArg Value.bool (dQ_f fun ⟨k2, h1, h2, h3⟩ => by rcases Nat.lt_trichotomy k2 k with h | h | h; (· exact hno k2 h ⟨h1, h3⟩); (· exact hnk ⟨h ▸ h1, h ▸ h3⟩); (· omega)).symm))
      ·
       refine o_step rfl (step_cast (v' := .bool false) (s_geq rfl rfl) (by rw [decide_eq_false (by omega)])) ?_
       refine o_step rfl (s_pick_t rfl rfl) ?_
       refine o_nil ?_
       refine x_then (hK13 _ _ ?_)
       refine c_false rfl ?_
       refine c_skip ?_
       refine x_then (hK12 _ _ ?_)
       refine c_region ?_
       refine o_step rfl (s_move rfl) ?_
       refine o_step rfl (s_move rfl) ?_
       refine o_step rfl (s_add rfl rfl (by omega)) ?_
       refine o_step rfl (s_move rfl) ?_
       refine o_call (over10_fn K hK y js (i + 1) _ (hks ▸ hpk) a2 c2 l2 (fun t => pow (der K.tx ks false) k p t) hi2 (fun t h => pow_inn (der_inn _ _) k p t hpl h)) rfl rfl rfl (by exact .nil) (fun w2 st => ⟨hw.sub (S := []) st hin_nil, (hr2.rdk hiA).out w2 st⟩) (fun v64 S64 hv64 => ?_)
       obtain ⟨a64, c64, l64, rfl, hi64, hr64⟩ := hv64.rds hr2
       refine o_step rfl (s_assign rfl) ?_
       refine o_nil ?_
       refine x_block ?_
       refine x_then (hK8 _ _ ?_)
       refine c_region ?_
       refine o_step rfl (s_move rfl) ?_
       refine o_step rfl (s_add rfl rfl (by omega)) ?_
       refine o_step rfl (s_assign rfl) ?_
       refine o_nil ?_
       exact x_then (x_inv (k + 1, a64, c64, l64, S64 ++ S2) ⟨by omega, by omega, fun j h => if e : j = k then e ▸ hnk else hno j (by omega), hi64.iff (fun t _ => by rw [← hD]; exact pow_succ'.symm), hr64⟩ (by first | omega | (dsimp only; omega)) sbA hzB)
     ·
      refine o_step rfl (step_cast (v' := .bool false) (s_neq rfl rfl) (by rw [decide_eq_false (by omega)])) ?_
      refine o_step rfl (s_move rfl) ?_
      refine o_no rfl rfl rfl rfl ?_
      refine o_no rfl rfl rfl rfl ?_
      refine o_no rfl rfl rfl rfl ?_
      refine o_no rfl rfl rfl rfl ?_
      refine o_no rfl rfl rfl rfl ?_
      refine o_no rfl rfl rfl rfl ?_
      refine o_step rfl (s_pick_f rfl rfl) ?_
      refine o_nil ?_
      refine x_then (hK13 _ _ ?_)
      refine c_false rfl ?_
      refine c_skip ?_
      refine x_then (hK12 _ _ ?_)
      refine c_region ?_
      refine o_step rfl (s_move rfl) ?_
      refine o_step rfl (s_move rfl) ?_
      refine o_step rfl (s_add rfl rfl (by omega)) ?_
      refine o_step rfl (s_move rfl) ?_
      refine o_call (over10_fn K hK y js (i + 1) _ (hks ▸ hpk) a2 c2 l2 (fun t => pow (der K.tx ks false) k p t) hi2 (fun t h => pow_inn (der_inn _ _) k p t hpl h)) rfl rfl rfl (by exact .nil) (fun w2 st => ⟨hw.sub (S := []) st hin_nil, (hr2.rdk hiA).out w2 st⟩) (fun v64 S64 hv64 => ?_)
      obtain ⟨a64, c64, l64, rfl, hi64, hr64⟩ := hv64.rds hr2
      refine o_step rfl (s_assign rfl) ?_
      refine o_nil ?_
      refine x_block ?_
      refine x_then (hK8 _ _ ?_)
      refine c_region ?_
      refine o_step rfl (s_move rfl) ?_
      refine o_step rfl (s_add rfl rfl (by omega)) ?_
      refine o_step rfl (s_assign rfl) ?_
      refine o_nil ?_
      exact x_then (x_inv (k + 1, a64, c64, l64, S64 ++ S2) ⟨by omega, by omega, fun j h => if e : j = k then e ▸ hnk else hno j (by omega), hi64.iff (fun t _ => by rw [← hD]; exact pow_succ'.symm), hr64⟩ (by first | omega | (dsimp only; omega)) sbA hzB)
   ·
    have hnk : ¬ (x.mn ≤ ((r + k : Nat) : Int) ∧ pow (der K.tx ks false) k p q) := fun h => by have := h.1; omega
    refine o_step rfl (step_cast (v' := .bool false) (s_geq rfl rfl) (by rw [decide_eq_false (by omega)])) ?_
    refine o_step rfl (s_move rfl) ?_
    refine o_no rfl rfl rfl rfl ?_
    refine o_no rfl rfl rfl rfl ?_
    refine o_no rfl rfl rfl rfl ?_
    refine o_no rfl rfl rfl rfl ?_
    refine o_step rfl (s_pick_f rfl rfl) ?_
    refine o_nil ?_
    refine x_then (hK10 _ _ ?_)
    refine c_false rfl ?_
    refine c_skip ?_
    refine x_then (hK9 _ _ ?_)
    refine c_seq fun _ hK15 => ?_
    refine c_seq fun _ hK16 => ?_
    refine c_region ?_
    refine o_step rfl (s_field rfl rfl (by decide)) ?_
    refine o_step rfl (s_ld rfl (.own meA rfl)) ?_
    by_cases hx1 : x.mx ≠ -1
    ·
     refine o_step rfl (step_cast (v' := .bool true) (s_neq rfl rfl) (by rw [decide_eq_true (by omega)])) ?_
     refine o_step rfl (s_move rfl) ?_
     refine o_yes rfl rfl ?_
     refine o_step rfl (s_move rfl) ?_
     refine o_yes rfl rfl ?_
     refine o_step rfl (s_move rfl) ?_
     refine o_yes rfl rfl ?_
     refine o_step rfl (s_add rfl rfl (by omega)) ?_
     refine o_yes rfl rfl ?_
     refine o_step rfl (s_field rfl rfl (by decide)) ?_
     refine o_yes rfl rfl ?_
     refine o_step rfl (s_ld rfl (.own meA rfl)) ?_
     refine o_yes rfl rfl ?_
     by_cases hx2 : (r : Int) + k ≥ x.mx
     ·
      refine o_step rfl (step_cast (v' := .bool true) (s_geq rfl rfl) (by rw [decide_eq_true (by omega)])) ?_
      refine o_step rfl (s_pick_t rfl rfl) ?_
      refine o_nil ?_
      refine x_then (hK16 _ _ ?_)
      refine c_true rfl ?_
      refine c_seq fun _ hK17 => ?_
      refine c_region ?_
      refine o_step rfl (s_assign rfl) ?_
      refine o_nil ?_
      refine x_then (hK17 _ _ ?_)
      refine c_ret ?_
      refine x_then_ret (x_block_ret (x_then_ret (x_then_ret (x_block_ret (x_then_ret (?_))))))
      exact x_ret rfl (.tmp rfl (.nil)) ((congrArg Value.bool (dQ_f fun ⟨k2, h1, h2, h3⟩ => by rcases Nat.lt_trichotomy k2 k with h | h | h; (· exact hno k2 h ⟨h1, h3⟩); (· exact hnk ⟨h ▸ h1, h ▸ h3⟩); (· omega)).symm))
     ·
      refine o_step rfl (step_cast (v' := .bool false) (s_geq rfl rfl) (by rw [decide_eq_false (by omega)])) ?_
      refine o_step rfl (s_pick_t rfl rfl) ?_
      refine o_nil ?_
      refine x_then (hK16 _ _ ?_)
      refine c_false rfl ?_
      refine c_skip ?_
      refine x_then (hK15 _ _ ?_)
      refine c_region ?_
      refine o_step rfl (s_move rfl) ?_
      refine o_step rfl (s_move rfl) ?_
      refine o_step rfl (s_add rfl rfl (by omega)) ?_
      refine o_step rfl (s_move rfl) ?_
      refine o_call (over10_fn K hK y js (i + 1) _ (hks ▸ hpk) a2 c2 l2 (fun t => pow (der K.tx ks false) k p t) hi2 (fun t h => pow_inn (der_inn _ _) k p t hpl h)) rfl rfl rfl (by exact .nil) (fun w2 st => ⟨hw.sub (S := []) st hin_nil, (hr2.rdk hiA).out w2 st⟩) (fun v64 S64 hv64 => ?_)
      obtain ⟨a64, c64, l64, rfl, hi64, hr64⟩ := hv64.rds hr2
      refine o_step rfl (s_assign rfl) ?_
      refine o_nil ?_
      refine x_block ?_
      refine x_then (hK8 _ _ ?_)
      refine c_region ?_
      refine o_step rfl (s_move rfl) ?_
      refine o_step rfl (s_add rfl rfl (by omega)) ?_
      refine o_step rfl (s_assign rfl) ?_
      refine o_nil ?_
      exact x_then (x_inv (k + 1, a64, c64, l64, S64 ++ S2) ⟨by omega, by omega, fun j h => if e : j = k then e ▸ hnk else hno j (by omega), hi64.iff (fun t _ => by rw [← hD]; exact pow_succ'.symm), hr64⟩ (by first | omega | (dsimp only; omega)) sbA hzB)
    ·
     refine o_step rfl (step_cast (v' := .bool false) (s_neq rfl rfl) (by rw [decide_eq_false (by omega)])) ?_
     refine o_step rfl (s_move rfl) ?_
     refine o_no rfl rfl rfl rfl ?_
     refine o_no rfl rfl rfl rfl ?_
     refine o_no rfl rfl rfl rfl ?_
     refine o_no rfl rfl rfl rfl ?_
     refine o_no rfl rfl rfl rfl ?_
     refine o_no rfl rfl rfl rfl ?_
     refine o_step rfl (s_pick_f rfl rfl) ?_
     refine o_nil ?_
     refine x_then (hK16 _ _ ?_)
     refine c_false rfl ?_
     refine c_skip ?_
     refine x_then (hK15 _ _ ?_)
     refine c_region ?_
     refine o_step rfl (s_move rfl) ?_
     refine o_step rfl (s_move rfl) ?_
     refine o_step rfl (s_add rfl rfl (by omega)) ?_
     refine o_step rfl (s_move rfl) ?_
     refine o_call (over10_fn K hK y js (i + 1) _ (hks ▸ hpk) a2 c2 l2 (fun t => pow (der K.tx ks false) k p t) hi2 (fun t h => pow_inn (der_inn _ _) k p t hpl h)) rfl rfl rfl (by exact .nil) (fun w2 st => ⟨hw.sub (S := []) st hin_nil, (hr2.rdk hiA).out w2 st⟩) (fun v64 S64 hv64 => ?_)
     obtain ⟨a64, c64, l64, rfl, hi64, hr64⟩ := hv64.rds hr2
     refine o_step rfl (s_assign rfl) ?_
     refine o_nil ?_
     refine x_block ?_
     refine x_then (hK8 _ _ ?_)
     refine c_region ?_
     refine o_step rfl (s_move rfl) ?_
     refine o_step rfl (s_add rfl rfl (by omega)) ?_
     refine o_step rfl (s_assign rfl) ?_
     refine o_nil ?_
     exact x_then (x_inv (k + 1, a64, c64, l64, S64 ++ S2) ⟨by omega, by omega, fun j h => if e : j = k then e ▸ hnk else hno j (by omega), hi64.iff (fun t _ => by rw [← hD]; exact pow_succ'.symm), hr64⟩ (by first | omega | (dsimp only; omega)) sbA hzB)
  ·
   refine e_take 10 rfl (by kernel_rfl) (by kernel_rfl) (by kernel_rfl) (by kernel_rfl) (fun _ _ => rfl) rfl hzB (step_cast (v' := .bool false) (s_leq rfl rfl) (by rw [decide_eq_false (by omega)])) ?_
   refine e_done (by kernel_rfl) ?_
   refine x_then (hK7 _ _ ?_)
   refine c_false rfl ?_
   refine c_exit ?_
   refine x_then_exit ?_
   refine x_then_exit ?_
   refine x_block_exit ?_
   refine x_then (hK4 _ _ ?_)
   refine c_seq fun _ hK18 => ?_
   refine c_region ?_
   refine o_step rfl (s_assign rfl) ?_
   refine o_nil ?_
   refine x_then (hK18 _ _ ?_)
   refine c_ret ?_
   refine ?_
   exact x_ret rfl (.tmp rfl (.nil)) ((congrArg Value.bool (dQ_f fun h => by obtain ⟨k2, hk2, h1, h2, h3⟩ := RR_few (der_up _ _) hql h; exact hno k2 (by omega) ⟨h1, h3⟩).symm))

set_option maxHeartbeats 1000000 in
theorem forget10_fn (K : WalkE) (hK : K.ok) (y : Nd) (js : F) (a i1 : Nat) (hpa : Part K.re (.nd y js .nil) a i1) (cs : List Sp) (Sc : Hp) (hcl : cs.length = K.N) (hsl8 : Slots K.re K.N) (hO : OwnS Esp 2 62 K.vca cs Sc) : HL.Fn Tryd.prog 72 [pt K.bW, .int .i64 a] (fun W => EnvW W K (keys Sc)) Sc (fun _ S' => OwnS Esp 2 62 K.vca (fgt (F.nd y js .nil).flat cs) S') := by
  refine fn_of Tryd.func72 rfl rfl rfl fun w0 hw => ?_
  have hsl := hw.d1.sl
  have hrl := hK.len
  have hal := hpa.le
  have hpl := hpa.len
  simp only [F.size] at hpl
  refine c_seq fun _ hK1 => ?_
  refine c_region ?_
  refine o_step rfl (s_move rfl) ?_
  refine o_step rfl (s_nil rfl) ?_
  refine o_step rfl (s_field rfl rfl (by decide)) ?_
  refine o_step rfl (s_ld rfl ((RdPK.old hw.p1 hw.n1).cel (j := 0) rfl rfl)) ?_
  refine o_step rfl (s_move rfl) ?_
  refine o_callP (behind10_fn K.ra K.rc K.re y js a _ hpa) rfl rfl rfl (fun w2 st => (RdK.old hw.d1 hw.a1).out w2 st) (fun v11 hv11 => ?_)
  subst hv11
  refine o_step rfl (s_assign rfl) ?_
  refine o_nil ?_
  refine x_then (hK1 _ _ ?_)
  refine c_seq fun _ hK2 => ?_
  refine c_region ?_
  refine o_step rfl (s_move rfl) ?_
  refine o_step rfl (s_assign rfl) ?_
  refine o_nil ?_
  refine x_then (hK2 _ _ ?_)
  refine c_block ?_
  refine c_loop3 (fun (j : Nat) (l : List Sp) (S : Hp) => a ≤ j ∧ j ≤ i1 ∧ l = fgtTo K.re a j cs ∧ OwnS Esp 2 62 K.vca l S) (fun (j : Nat) (l : List Sp) (S : Hp) => [(5, .int .i64 j)]) [(0, _), (4, _)] (fun (j : Nat) (l : List Sp) (S : Hp) => S) (fun (j : Nat) (l : List Sp) (S : Hp) => i1 - j) a cs Sc ⟨Nat.le_refl _, by omega, fgtTo_start.symm, hO⟩ sbA sbA hzB ?_
  rintro j l S ⟨hj1, hj2, hl, hS⟩
  have hll : l.length = K.N := by rw [hl, fgtTo_len, hcl]
  have hls := hS.sl
  rw [hll] at hls
  refine c_seq fun _ hK3 => ?_
  refine c_seq fun _ hK4 => ?_
  refine c_region ?_
  refine o_step rfl (s_move rfl) ?_
  refine o_step rfl (s_move rfl) ?_
  by_cases hjl : (j : Int) < i1
  ·
   obtain ⟨x, hxj⟩ : ∃ x, K.re[j]? = some x := ⟨_, List.getElem?_eq_getElem (by omega)⟩
   have hxm := List.mem_of_getElem? hxj
   have hxo := hK.rng x hxm
   refine o_step rfl (step_cast (v' := .bool true) (s_lss rfl rfl) (by rw [decide_eq_true (by omega)])) ?_
   refine o_nil ?_
   refine x_then (hK4 _ _ ?_)
   refine c_true rfl ?_
   refine c_skip ?_
   refine x_then (hK3 _ _ ?_)
   refine c_seq fun _ hK5 => ?_
   refine c_block ?_
   refine c_seq fun _ hK6 => ?_
   refine c_region ?_
   refine o_step rfl (s_move rfl) ?_
   refine o_step rfl (s_nil rfl) ?_
   refine o_step rfl (s_field rfl rfl (by decide)) ?_
   refine o_step rfl (s_ld rfl ((RdPK.old hw.p1 hw.n1).cel (j := 0) rfl rfl)) ?_
   refine o_step rfl (s_move rfl) ?_
   refine o_step rfl (s_idx rfl rfl hsl (by omega)) ?_
   refine o_step rfl (s_field rfl rfl (by decide)) ?_
   refine o_step rfl (s_ld rfl ((RdK.old hw.d1 hw.a1).ld j 0 hxj rfl (by decide) (by omega))) ?_
   refine o_step rfl (s_convI rfl (by omega)) ?_
   by_cases h7 : x.op = 7
   ·
    have hx7 := hsl8 x hxm h7
    refine o_step rfl (step_cast (v' := .bool true) (s_eql rfl rfl) (by rw [decide_eq_true h7])) ?_
    refine o_nil ?_
    refine x_then (hK6 _ _ ?_)
    refine c_true rfl ?_
    refine c_drawE ([]) (fun i => false) ?_
    refine e_take 0 rfl (by kernel_rfl) (by kernel_rfl) (by kernel_rfl) (by kernel_rfl) (fun _ _ => rfl) rfl (by exact HSub.nil) (s_move rfl) ?_
    refine e_take 1 rfl (by kernel_rfl) (by kernel_rfl) (by kernel_rfl) (by kernel_rfl) (fun _ _ => rfl) rfl (by exact HSub.nil) (s_nil rfl) ?_
    refine e_take 2 rfl (by kernel_rfl) (by kernel_rfl) (by kernel_rfl) (by kernel_rfl) (fun _ _ => rfl) rfl (by exact HSub.nil) (s_field rfl rfl (by decide)) ?_
    refine e_take 3 rfl (by kernel_rfl) (by kernel_rfl) (by kernel_rfl) (by kernel_rfl) (fun _ _ => rfl) rfl (by exact HSub.nil) (s_ld rfl ((RdPK.old hw.p1 hw.n1).cel (j := 2) rfl rfl)) ?_
    refine e_take 4 rfl (by kernel_rfl) (by kernel_rfl) (by kernel_rfl) (by kernel_rfl) (fun _ _ => rfl) rfl (by exact HSub.nil) (s_move rfl) ?_
    refine e_take 5 rfl (by kernel_rfl) (by kernel_rfl) (by kernel_rfl) (by kernel_rfl) (fun _ _ => rfl) rfl (by exact HSub.nil) (s_nil rfl) ?_
    refine e_take 6 rfl (by kernel_rfl) (by kernel_rfl) (by kernel_rfl) (by kernel_rfl) (fun _ _ => rfl) rfl (by exact HSub.nil) (s_field rfl rfl (by decide)) ?_
    refine e_take 7 rfl (by kernel_rfl) (by kernel_rfl) (by kernel_rfl) (by kernel_rfl) (fun _ _ => rfl) rfl (by exact HSub.nil) (s_ld rfl ((RdPK.old hw.p1 hw.n1).cel (j := 0) rfl rfl)) ?_
    refine e_take 8 rfl (by kernel_rfl) (by kernel_rfl) (by kernel_rfl) (by kernel_rfl) (fun _ _ => rfl) rfl (by exact HSub.nil) (s_move rfl) ?_
    refine e_take 9 rfl (by kernel_rfl) (by kernel_rfl) (by kernel_rfl) (by kernel_rfl) (fun _ _ => rfl) rfl (by exact HSub.nil) (s_idx rfl rfl hsl (by omega)) ?_
    refine e_take 10 rfl (by kernel_rfl) (by kernel_rfl) (by kernel_rfl) (by kernel_rfl) (fun _ _ => rfl) rfl (by exact HSub.nil) (s_field rfl rfl (by decide)) ?_
    refine e_take 11 rfl (by kernel_rfl) (by kernel_rfl) (by kernel_rfl) (by kernel_rfl) (fun _ _ => rfl) rfl (by exact HSub.nil) (s_ld rfl ((RdK.old hw.d1 hw.a1).ld j 5 hxj rfl (by decide) (by omega))) ?_
    refine e_take 12 rfl (by kernel_rfl) (by kernel_rfl) (by kernel_rfl) (by kernel_rfl) (fun _ _ => rfl) rfl (by exact HSub.nil) (step_cast (v' := .agg (Esp noS).toArray) (s_build (cs := [_, _]) (vs := [_, _]) rfl rfl (.cons rfl rfl rfl rfl rfl (.cons rfl rfl rfl rfl rfl (.nil)))) rfl) ?_
    refine e_take 13 rfl (by kernel_rfl) (by kernel_rfl) (by kernel_rfl) (by kernel_rfl) (fun _ _ => rfl) rfl (by exact HSub.nil) (s_idx rfl rfl hls (by omega)) ?_
    refine e_one 14 rfl (by kernel_rfl) ?_
    refine o_stSE x.n.toNat noS hS pkA rfl rfl (by omega) (by rfl) fun S' hS' => ?_
    rw [List.append_nil]
    refine o_nil ?_
    refine x_oneS (by exact HSub.nil) ?_
    refine e_done (by kernel_rfl) ?_
    refine x_block ?_
    refine x_then (hK5 _ _ ?_)
    refine c_region ?_
    refine o_step rfl (s_move rfl) ?_
    refine o_step rfl (s_add rfl rfl (by omega)) ?_
    refine o_step rfl (s_assign rfl) ?_
    refine o_nil ?_
    exact x_then (x_inv (j + 1, _, _) ⟨by omega, by omega, by dsimp only; rw [fgtTo_step hxj hj1, ← hl, fg1, if_pos h7], hS'⟩ (by first | omega | (dsimp only; omega)) sbA hzB)
   ·
    refine o_step rfl (step_cast (v' := .bool false) (s_eql rfl rfl) (by rw [decide_eq_false h7])) ?_
    refine o_nil ?_
    refine x_then (hK6 _ _ ?_)
    refine c_false rfl ?_
    refine c_skip ?_
    refine x_block ?_
    refine x_then (hK5 _ _ ?_)
    refine c_region ?_
    refine o_step rfl (s_move rfl) ?_
    refine o_step rfl (s_add rfl rfl (by omega)) ?_
    refine o_step rfl (s_assign rfl) ?_
    refine o_nil ?_
    exact x_then (x_inv (j + 1, _, _) ⟨by omega, by omega, by dsimp only; rw [fgtTo_step hxj hj1, ← hl, fg1, if_neg h7], hS⟩ (by first | omega | (dsimp only; omega)) sbA hzB)
  ·
   obtain rfl : j = i1 := by omega
   refine o_step rfl (step_cast (v' := .bool false) (s_lss rfl rfl) (by rw [decide_eq_false (by omega)])) ?_
   refine o_nil ?_
   refine x_then (hK4 _ _ ?_)
   refine c_false rfl ?_
   refine c_exit ?_
   refine x_then_exit ?_
   refine x_then_exit ?_
   refine x_block_exit ?_
   refine x_sub (Sub.refl _) (H' := S) hzB ?_
   exact x_end rfl (.nil) ((by rw [hl, fgtTo_part hpa] at hS; exact hS))
end Go.Proofs.YtiggliigookieaaDoor
