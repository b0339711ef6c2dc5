/- Rows of bytes, so many times. Conditions: none. -/
import Derived.Test.YtopmnmigpbdddaaDoorXZP4Z
import Derived.Test.YtopmnmigpbdddaaDoorHRZ
import Derived.Test.YtopmnmigpbdddaaDoorMT9Z
import Derived.Test.YtopmnmigpbdddaaDoorMT3Z
import Derived.Test.YtopmnmigpbdddaaDoorMK1Z
namespace Go.HL.Kl.Mc
open Go Go.HL Go.HL.Kl
/-! well shaped: forests without groups and references -/
def F.plain : F → Prop
  | .nil => True
  | .nd x ks r => (¬ x.op = 7 ∧ ¬ x.op = 8) ∧ ks.plain ∧ r.plain
theorem shN_full {re : List Nd} : ∀ (f : F) (d g i i' : Nat) (en : List Bool), Part re f i i' → f.depth ≤ d → f.plain → kidsN (fun i en => shN re d i en g) f.num i en = some (i', en)
  | .nil, d, g, i, i', en, h, _, _ => by
    have := h.len
    simp [F.size] at this
    subst this; rfl
  | .nd x ks r, d, g, i, i', en, h, hd, hp => by
    obtain ⟨hx, hk, hr⟩ := h.head
    simp only [F.depth] at hd
    obtain ⟨d', rfl⟩ : ∃ d', d = d' + 1 := ⟨d - 1, by omega⟩
    have hkn : x.kids.toNat = ks.num := by have : (ks.num : Int) = x.kids := h.wf.2.1; omega
    have h1 := shN_full ks d' g (i + 1) _ en hk (by omega) hp.2.1
    have h2 := shN_some hx h.wf.1 (gate_other (en := en) (g := g) hp.1.2 hp.1.1) (by rw [hkn]; exact h1)
    rw [if_neg hp.1.1] at h2
    show (match shN re (d' + 1) i en g with | none => none | some (i', en') => kidsN (fun i en => shN re (d' + 1) i en g) r.num i' en') = _
    rw [h2]
    exact shN_full r (d' + 1) g _ i' en hr (by omega) hp.2.2
theorem Shp.good {re : List Nd} {x : Nd} {ks : F} (h : Shp re x ks) (hp : (F.nd x ks .nil).plain) : shapedB re = true ∧ refsB re = false := by
  have h1 := shN_full (.nd x ks .nil) 260 0 0 re.length [] h.part (by have := h.dep; simp only [F.depth]; omega) hp
  have h2 : shN re 260 0 [] 0 = some (re.length, []) := by
    simp only [F.num, kidsN] at h1
    cases hs : shN re 260 0 [] 0 with
    | none => simp [hs] at h1
    | some q => obtain ⟨a, b⟩ := q; simpa [hs] using h1
  refine ⟨shapedB_iff.2 ⟨⟨[], h2⟩, x, ks, h⟩, refs_no fun j y hj hy h8 => ?_⟩
  have key : ∀ f : F, f.plain → ∀ y ∈ f.flat, ¬ y.op = 8 := by
    intro f
    induction f with
    | nil => intro _ y hy; cases hy
    | nd z a b iha ihb =>
      rintro ⟨h1, h2, h3⟩ y hy
      rcases List.mem_cons.1 hy with rfl | hy
      · exact h1.2
      · exact (List.mem_append.1 hy).elim (iha h2 y) (ihb h3 y)
  have hm := List.mem_of_getElem? hy
  rw [h.flat] at hm
  exact key _ hp y (by simpa [F.flat] using hm) h8
/-! the row's regex -/
def endN : Nd := ⟨4, 0, 0, 0, 0, 0⟩
def rowN (n : Nat) : Nd := ⟨4, 0, 0, 0, 0, (n : Int) + 1⟩
def timN (l m : Nat) : Nd := ⟨6, 0, 0, l, (l : Int) + m, 1⟩
def rowF : List UInt8 → F
  | [] => .nd endN .nil .nil
  | b :: bs => .nd (letN b) .nil (rowF bs)
def rowR (row : List UInt8) (l m : Nat) : List Nd := timN l m :: rowN row.length :: (row.map letN ++ [endN])
theorem let_ok' (b : UInt8) : ndOk (letN b) = true := by
  have : flds (letN b) = true := flds_iff.2 ⟨by simp [letN], .inl rfl, .inr (.inr rfl), (fun h => by cases h), fun _ => ⟨rfl, rfl⟩⟩
  rw [ndOk, this]; rfl
def Mt (row w : List UInt8) (p : Nat) : Prop := (w.drop p).take row.length = row
theorem der_let {w : List UInt8} {b : UInt8} {p q : Nat} : der1 w (letN b) .nil p q ↔ q = p + 1 ∧ w[p]? = some b := by
  rw [der1_def, if_pos (show (letN b).op = 1 from rfl)]
  refine and_congr_right fun _ => ⟨fun ⟨c, hc, hs⟩ => ?_, fun h => ⟨b, h, ?_⟩⟩
  · rw [show (letN b).set = bit b.toNat from rfl, bit_get c.toNat_lt, decide_eq_true_eq] at hs
    rw [hc, UInt8.toNat_inj.1 hs]
  · rw [show (letN b).set = bit b.toNat from rfl, bit_get b.toNat_lt, decide_eq_true_eq]
theorem mt_cons {b : UInt8} {bs w : List UInt8} {p : Nat} : Mt (b :: bs) w p ↔ w[p]? = some b ∧ Mt bs w (p + 1) := by
  unfold Mt
  rcases Nat.lt_or_ge p w.length with h | h
  · rw [List.drop_eq_getElem_cons h, List.getElem?_eq_getElem h, List.length_cons, List.take_succ_cons]
    simp
  · rw [List.drop_of_length_le h, List.getElem?_eq_none h]
    simp
/-- the greatest number of rounds -/
def Most (row w : List UInt8) (n k : Nat) : Prop := k ≤ n ∧ (∀ j, j < k → Mt row w (j * row.length)) ∧ (k = n ∨ ¬ Mt row w (k * row.length))
end Go.HL.Kl.Mc

/- Groups lie in the match, inner ones in outer ones; the known run. Conditions: none. -/
namespace Go.HL.Kl.Mc
open Go Go.HL Go.HL.Kl AskE
def gl (l : List Nd) : List Nat := (l.filter fun y => decide (y.op = 7)).map fun y => y.n.toNat
def gn (f : F) : List Nat := gl f.flat
def Non (f : F) (cs : List Sp) : Prop := ∀ i ∈ gn f, cs[i]? = some noS
def Nst : F → Int → Int → List Sp → Prop
  | .nil, _, _, _ => True
  | .nd x ks r, lo, hi, cs => (if x.op = 7 then ∃ s, cs[x.n.toNat]? = some s ∧ ((s = noS ∧ Non ks cs) ∨ (lo ≤ s.fr ∧ s.fr ≤ s.to ∧ s.to ≤ hi ∧ Nst ks s.fr s.to cs)) else Nst ks lo hi cs) ∧ Nst r lo hi cs
end Go.HL.Kl.Mc

/- What the laws ask of the groups; the known run. Conditions: none. -/
namespace Go.HL.Kl.Mc
open Go Go.HL Go.HL.Kl AskE
def catC : Nd := ⟨4, 0, 0, 0, 0, 2⟩
def grpC : Nd := ⟨7, 0, 1, 0, 0, 1⟩
def reC : List Nd := [catC, grpC, starN, letN 97, letN 98]
def ksG : F := .nd starN ksW .nil
def ksB : F := .nd (letN 98) .nil .nil
def ksC : F := .nd grpC ksG ksB
def wC : List UInt8 := [99, 97, 97, 98]
end Go.HL.Kl.Mc

/- A row of marks that stand for themselves: its tree. -/
namespace Go.HL.Kl.Mc
open Go Go.HL Go.Tab
def litM (m : Mk) : Nd := ⟨1, ofL [m.b], 0, 0, 0, 0⟩
def litF : List Mk → F
  | [] => .nil
  | m :: ms => .nd (litM m) .nil (litF ms)
def catM (n : Nat) : Nd := ⟨4, 0, 0, 0, 0, (n : Int)⟩
theorem litM_eq (m : Mk) : litM m = letN m.b := by
  show (⟨1, ofL [m.b], 0, 0, 0, 0⟩ : Nd) = ⟨1, bit m.b.toNat, 0, 0, 0, 0⟩
  congr 1
  simp [ofL]
theorem litF_num : ∀ l, (litF l).num = l.length
  | [] => rfl
  | m :: ms => by simp [litF, F.num, litF_num ms]
theorem litF_flat : ∀ l, (litF l).flat = l.map litM
  | [] => rfl
  | m :: ms => by simp [litF, F.flat, litF_flat ms]
theorem litF_wf : ∀ l, (litF l).wf
  | [] => trivial
  | m :: ms => ⟨by rw [litM_eq]; exact let_ok' m.b, rfl, trivial, litF_wf ms⟩
theorem litF_plain : ∀ l, (litF l).plain
  | [] => trivial
  | m :: ms => ⟨⟨by simp [litM], by simp [litM]⟩, trivial, litF_plain ms⟩
theorem litF_depth : ∀ l, (litF l).depth ≤ 1
  | [] => Nat.zero_le _
  | m :: ms => by have := litF_depth ms; simp [litF, F.depth]; omega
theorem litF_weight : ∀ l, (litF l).weight = l.length
  | [] => rfl
  | m :: ms => by simp [litF, F.weight, litF_weight ms]; omega
theorem catM_ok {n : Nat} (h : 2 ≤ n) : ndOk (catM n) = true := by
  have h1 : flds (catM n) = true := flds_iff.2 ⟨by simp [catM], .inr rfl, .inr (.inr rfl), (fun h => by cases h), fun _ => ⟨rfl, rfl⟩⟩
  have h2 : kidsOk (catM n) = true := by
    unfold kidsOk catM
    simp; omega
  rw [ndOk, h1, h2]; rfl
def litR (l : List Mk) : List Nd := catM l.length :: l.map litM
theorem litR_shp {l : List Mk} (h2 : 2 ≤ l.length) (h : l.length ≤ 4096) : Shp (litR l) (catM l.length) (litF l) := by
  refine ⟨⟨catM_ok h2, by rw [litF_num]; rfl, litF_wf l, trivial⟩, by simp [litR, litF_flat], by have := litF_depth l; omega, ?_⟩
  have t1 : times (catM l.length) = 1 := by simp [times, catM]
  rw [weight_one, litF_weight, t1]
  omega
theorem litR_good {l : List Mk} (h2 : 2 ≤ l.length) (h : l.length ≤ 4096) : shapedB (litR l) = true ∧ refsB (litR l) = false :=
  (litR_shp h2 h).good ⟨⟨by simp [catM], by simp [catM]⟩, litF_plain l, trivial⟩
theorem litR_rng (l : List Mk) : ∀ x ∈ litR l, -128 ≤ x.op ∧ x.op < 128 := fun x hx => by
  rcases List.mem_cons.1 hx with rfl | hx
  · simp [catM]
  · obtain ⟨b, _, rfl⟩ := List.mem_map.1 hx
    simp [litM]
theorem der_lits {w : List UInt8} : ∀ {l : List Mk} {p q : Nat}, der w (litF l) false p q ↔ q = p + l.length ∧ Mt (l.map Mk.b) w p
  | [], p, q => by
    rw [litF, der_nil]
    simp [Mt]
    exact eq_comm
  | m :: ms, p, q => by
    rw [litF, der_cat]
    simp only [litM_eq, der_let, List.map_cons, mt_cons, der_lits (l := ms), List.length_cons]
    constructor
    · rintro ⟨t, ⟨rfl, h1⟩, rfl, h2⟩; exact ⟨by omega, h1, h2⟩
    · rintro ⟨rfl, h1, h2⟩; exact ⟨p + 1, ⟨rfl, h1⟩, by omega, h2⟩
theorem der_litR {w : List UInt8} {l : List Mk} {p q : Nat} : der1 w (catM l.length) (litF l) p q ↔ q = p + l.length ∧ Mt (l.map Mk.b) w p := by
  rw [der1_def, if_neg (by simp [catM]), if_neg (by simp [catM]), if_neg (by simp [catM]), if_neg (by simp [catM]), if_neg (by simp [catM]), der_lits]
/-! the run that every law asks first -/
def lAB : List Mk := [⟨97, false⟩, ⟨98, false⟩]
def wAB : List UInt8 := [120, 97, 98, 97, 98]
theorem mayL {w : List UInt8} : May (litR lAB) w (catM 2) (litF lAB) := ⟨(litR_good (by decide) (by decide)).1, (litR_good (by decide) (by decide)).2, litR_shp (l := lAB) (by decide) (by decide)⟩
theorem derL {p q : Nat} : der1 wAB (catM 2) (litF lAB) p q ↔ q = p + 2 ∧ (p = 1 ∨ p = 3) := by
  rw [show (2 : Nat) = lAB.length from rfl, der_litR]
  refine and_congr_right fun _ => ?_
  unfold Mt
  rcases Nat.lt_or_ge p 5 with h | h
  · have : p = 0 ∨ p = 1 ∨ p = 2 ∨ p = 3 ∨ p = 4 := by omega
    rcases this with rfl | rfl | rfl | rfl | rfl <;> decide
  · rw [List.drop_of_length_le (by simpa [wAB] using h)]
    simp [lAB]
    omega
theorem capsL {p q : Nat} : capsV wAB (litR lAB) (catM 2) (litF lAB) p q = [⟨p, q⟩] := by
  have h : (bst1 wAB (catM 2) (litF lAB) p q (List.replicate (gcn (litR lAB) + 1) noS)).length = 1 := by rw [bst1_len, List.length_replicate]; rfl
  unfold capsV
  obtain ⟨x, hx⟩ := List.length_eq_one_iff.1 h
  rw [hx]; rfl
theorem findL {T : Nat} {v : Value} {S' : Hp} (h : FindP T (litR lAB) wAB 0 v S') : ∃ a cc, v = .tuple #[.slice a 1 cc, .bool true] ∧ OwnS Esp 2 T (.slice a 1 cc) [⟨1, 3⟩] S' := by
  rcases h with ⟨x, ks, g, p, q, hm, hg, hl, a, cc, hv, hO⟩ | ⟨hn, _⟩
  · obtain ⟨rfl, rfl⟩ := hm.hs.uniq (mayL (w := wAB)).hs
    obtain ⟨rfl, h1⟩ := derL.1 hl.der
    obtain rfl : g = 0 := by omega
    have hp : p = 1 := by
      rcases h1 with h1 | h1
      · exact h1
      · exact absurd (derL.2 ⟨rfl, .inl rfl⟩) (hl.left 1 3 (by decide) (by omega) (by decide))
    subst hp
    rw [capsL] at hv hO
    exact ⟨a, cc, hv, hO⟩
  · exact absurd ⟨_, _, 0, 1, 3, mayL (w := wAB), rfl, by decide, by decide, derL.2 ⟨rfl, .inl rfl⟩⟩ hn
theorem findL4 {T : Nat} {v : Value} {S' : Hp} (h : FindP T (litR lAB) wAB 4 v S') : v = .tuple #[.slice none 0 0, .bool false] ∧ S' = [] := by
  rcases h with ⟨x, ks, g, p, q, hm, hg, hl, a, cc, hv, hO⟩ | ⟨_, h⟩
  · obtain ⟨rfl, rfl⟩ := hm.hs.uniq (mayL (w := wAB)).hs
    obtain ⟨rfl, h1⟩ := derL.1 hl.der
    have := hl.ge
    omega
  · exact h
end Go.HL.Kl.Mc

/- Part of the proofs over this seat: see the text that holds the theorem. Conditions: each theorem bears its own. -/
namespace Go.Proofs.YtopmnmigpbdddaaDoor
open Go Go.HL Go.Proofs Go.HL.Kl Go.HL.Kl.Mc Go.HL.Kl.Mc.AskE
theorem wrap16 {x : Int} (h : -32768 ≤ x ∧ x < 32768) : IntKind.i16.wrap x = x := by
  simp [IntKind.wrap, IntKind.signed, IntKind.bits]; omega
theorem fresh_fn (bS : Nat) (ma : Option Addr) (mc : Nat) (m : List In) (ta : Option Addr) (tc : Nat) (vh vw ve : Value) (st steps : Int) (mt : List Int) (St : Hp) (hT : OwnS Es16 1 77 (.slice ta m.length tc) mt St) (l : List Nat) (hM : MetOk mt st l m.length) (h0 : 0 ≤ st) (h1 : st ≤ 32767) : HL.Fn Tryd.prog 39 [pt bS] (fun _ => True) ((bS, .cells [.slice ma m.length mc, .slice ta m.length tc, .int .i16 st, vh, vw, ve, .int .i64 steps].toArray 81 (0, 0)) :: St) (fun _ S' => ∃ mt' St' st', S' = (bS, .cells [.slice ma m.length mc, .slice ta m.length tc, .int .i16 st', vh, vw, ve, .int .i64 steps].toArray 81 (0, 0)) :: St' ∧ OwnS Es16 1 77 (.slice ta m.length tc) mt' St' ∧ MetOk mt' st' [] m.length ∧ 0 ≤ st' ∧ st' ≤ 32767) := by
  refine fn_of Tryd.func39 rfl rfl rfl fun w0 hw => ?_
  have hml := hM.len
  refine c_seqJ (ι := Int × List Int × Hp) (fun g => (0 ≤ g.1 ∧ g.1 ≤ 32766) ∧ OwnS Es16 1 77 (.slice ta m.length tc) g.2.1 g.2.2 ∧ (∀ v ∈ g.2.1, 0 ≤ v ∧ v ≤ g.1) ∧ g.2.1.length = m.length) (fun g => []) [(0, _)] (fun g => (bS, .cells [.slice ma m.length mc, .slice ta m.length tc, .int .i16 g.1, vh, vw, ve, .int .i64 steps].toArray 81 (0, 0)) :: g.2.2) sbA ?_ ?_
  ·
   rintro g ⟨⟨hg0, hg1⟩, hgo, hgv, hgl⟩
   refine c_region ?_
   refine o_step rfl (s_move rfl) ?_
   refine o_step rfl (s_nil rfl) ?_
   refine o_step rfl (s_field rfl rfl (by decide)) ?_
   refine o_step rfl (s_ld rfl (.own meA rfl)) ?_
   refine o_step rfl (step_cast (v' := .int .i16 (g.1 + 1)) (s_addw rfl rfl) (congrArg _ (wrap16 (by omega)))) ?_
   refine o_step rfl (s_nil rfl) ?_
   refine o_step rfl (s_field rfl rfl (by decide)) ?_
   refine o_store rfl rfl rfl upA ltA rfl ?_
   refine o_nil ?_
   refine x_sub (Sub.refl _) (H' := (bS, .cells [.slice ma m.length mc, .slice ta m.length tc, .int .i16 (g.1 + 1), vh, vw, ve, .int .i64 steps].toArray 81 (0, 0)) :: g.2.2) hzB ?_
   exact x_end rfl (.nil) (⟨g.2.1, g.2.2, g.1 + 1, rfl, hgo, ⟨hgl, fun k v hv => ⟨fun e => by have := (hgv v (List.mem_of_getElem? hv)).2; omega, fun h => (by cases h)⟩, fun v hv => ⟨(hgv v hv).1, by have := (hgv v hv).2; omega⟩, fun k h => (by cases h), List.nodup_nil⟩, by omega, by omega⟩)
  ·
   intro _ hJ1
   refine c_seq fun _ hK2 => ?_
   refine c_region ?_
   refine o_step rfl (s_move rfl) ?_
   refine o_step rfl (s_nil rfl) ?_
   refine o_step rfl (s_field rfl rfl (by decide)) ?_
   refine o_step rfl (s_ld rfl (.own meA rfl)) ?_
   by_cases hs : st = 32767
   ·
    refine o_step rfl (step_cast (v' := .bool true) (s_eql rfl rfl) (by rw [decide_eq_true (by omega)])) ?_
    refine o_nil ?_
    refine x_then (hK2 _ _ ?_)
    refine c_true rfl ?_
    refine c_seq fun _ hK3 => ?_
    refine c_region ?_
    refine o_step rfl (s_move rfl) ?_
    refine o_step rfl (s_nil rfl) ?_
    refine o_step rfl (s_field rfl rfl (by decide)) ?_
    refine o_step rfl (s_ld rfl (.own meA rfl)) ?_
    refine o_clear (zx := (0 : Int)) hT rfl rfl pkA fun S4 hS4 => ?_
    refine o_nil ?_
    refine x_then (hK3 _ _ ?_)
    refine c_region ?_
    refine o_step rfl (s_move rfl) ?_
    refine o_step rfl (s_nil rfl) ?_
    refine o_step rfl (s_field rfl rfl (by decide)) ?_
    refine o_store rfl rfl rfl upA ltA rfl ?_
    refine o_nil ?_
    exact x_then (hJ1 (0, List.replicate mt.length 0, S4) _ _ ⟨⟨by show (0 : Int) ≤ 0; decide, by show (0 : Int) ≤ 32766; decide⟩, (by have h := hS4; simpa [hml] using h), (fun v hv => by have := List.eq_of_mem_replicate hv; dsimp only; omega), by simpa using hml⟩ sbA sbA hzB)
   ·
    refine o_step rfl (step_cast (v' := .bool false) (s_eql rfl rfl) (by rw [decide_eq_false (by omega)])) ?_
    refine o_nil ?_
    refine x_then (hK2 _ _ ?_)
    refine c_false rfl ?_
    refine c_skip ?_
    exact x_then (hJ1 (st, mt, St) _ _ ⟨⟨h0, by omega⟩, hT, hM.le, hml⟩ sbA sbA hzB)

set_option maxHeartbeats 1000000 in
theorem come_fn (bS : Nat) (ma : Option Addr) (mc : Nat) (m : List In) (hml : m.length ≤ 70000) (ta : Option Addr) (tc : Nat) (vh vw ve : Value) (st steps : Int) (mt : List Int) (St : Hp) (hT : OwnS Es16 1 77 (.slice ta m.length tc) mt St) (la : Option Addr) (lc : Nat) (l : List Nat) (Sl : Hp) (hl : OwnS Eix 1 3 (.slice la l.length lc) l Sl) (hM : MetOk mt st l m.length) (h0 : 0 ≤ st) (k : Nat) (hk : k < m.length) : HL.Fn Tryd.prog 40 [pt bS, .slice la l.length lc, .int .i64 k] (fun _ => True) ((bS, .cells [.slice ma m.length mc, .slice ta m.length tc, .int .i16 st, vh, vw, ve, .int .i64 steps].toArray 81 (0, 0)) :: (St ++ Sl)) (fun v S' => ∃ a c mt' St' Sl' steps', v = .slice a (comeL l k).length c ∧ S' = (bS, .cells [.slice ma m.length mc, .slice ta m.length tc, .int .i16 st, vh, vw, ve, .int .i64 steps'].toArray 81 (0, 0)) :: (St' ++ Sl') ∧ OwnS Es16 1 77 (.slice ta m.length tc) mt' St' ∧ OwnS Eix 1 3 (.slice a (comeL l k).length c) (comeL l k) Sl' ∧ MetOk mt' st (comeL l k) m.length) := by
  refine fn_of Tryd.func40 rfl rfl rfl fun w0 hw => ?_
  have hml2 := hM.len
  have hbig := hM.big
  obtain ⟨x, hx⟩ : ∃ x, mt[k]? = some x := ⟨_, List.getElem?_eq_getElem (by omega)⟩
  have hTs := hT.sl
  have hgx := hM.get k x hx
  refine c_seq fun _ hK1 => ?_
  refine c_region ?_
  refine o_step rfl (s_assign rfl) ?_
  refine o_nil ?_
  refine x_then (hK1 _ _ ?_)
  refine c_seq fun _ hK2 => ?_
  refine c_seq fun _ hK3 => ?_
  refine c_drawE ((bS, .cells [.slice ma m.length mc, .slice ta m.length tc, .int .i16 st, vh, vw, ve, .int .i64 steps].toArray 81 (0, 0)) :: St) (fun i => false) ?_
  refine e_take 0 rfl (by kernel_rfl) (by kernel_rfl) (by kernel_rfl) (by kernel_rfl) (fun _ _ => rfl) rfl hzB (s_move rfl) ?_
  refine e_take 1 rfl (by kernel_rfl) (by kernel_rfl) (by kernel_rfl) (by kernel_rfl) (fun _ _ => rfl) rfl hzB (s_nil rfl) ?_
  refine e_take 2 rfl (by kernel_rfl) (by kernel_rfl) (by kernel_rfl) (by kernel_rfl) (fun _ _ => rfl) rfl hzB (s_field rfl rfl (by decide)) ?_
  refine e_take 3 rfl (by kernel_rfl) (by kernel_rfl) (by kernel_rfl) (by kernel_rfl) (fun _ _ => rfl) rfl hzB (s_ld rfl (.own meA rfl)) ?_
  refine e_take 4 rfl (by kernel_rfl) (by kernel_rfl) (by kernel_rfl) (by kernel_rfl) (fun _ _ => rfl) rfl hzB (s_move rfl) ?_
  refine e_take 5 rfl (by kernel_rfl) (by kernel_rfl) (by kernel_rfl) (by kernel_rfl) (fun _ _ => rfl) rfl hzB (s_idx rfl rfl (by rw [hml2] at hTs; exact hTs) (by omega)) ?_
  refine e_take 6 rfl (by kernel_rfl) (by kernel_rfl) (by kernel_rfl) (by kernel_rfl) (fun _ _ => rfl) rfl hzB (s_ld rfl ((hT.rdk hiA).ld k 0 hx rfl (by decide) (by omega))) ?_
  refine e_take 7 rfl (by kernel_rfl) (by kernel_rfl) (by kernel_rfl) (by kernel_rfl) (fun _ _ => rfl) rfl hzB (s_move rfl) ?_
  refine e_take 8 rfl (by kernel_rfl) (by kernel_rfl) (by kernel_rfl) (by kernel_rfl) (fun _ _ => rfl) rfl hzB (s_nil rfl) ?_
  refine e_take 9 rfl (by kernel_rfl) (by kernel_rfl) (by kernel_rfl) (by kernel_rfl) (fun _ _ => rfl) rfl hzB (s_field rfl rfl (by decide)) ?_
  refine e_take 10 rfl (by kernel_rfl) (by kernel_rfl) (by kernel_rfl) (by kernel_rfl) (fun _ _ => rfl) rfl hzB (s_ld rfl (.own meA rfl)) ?_
  refine e_one 11 rfl (by kernel_rfl) ?_
  by_cases hxs : x = st
  ·
   have hkl := hgx.1 hxs
   have hcl : comeL l k = l := if_pos hkl
   refine o_step rfl (step_cast (v' := .bool true) (s_eql rfl rfl) (by rw [decide_eq_true hxs])) ?_
   refine o_nil ?_
   refine x_oneS hzB ?_
   refine e_done (by kernel_rfl) ?_
   refine x_then (hK3 _ _ ?_)
   refine c_true rfl ?_
   refine c_seq fun _ hK4 => ?_
   refine c_region ?_
   refine o_step rfl (s_move rfl) ?_
   refine o_step rfl (s_assign rfl) ?_
   refine o_nil ?_
   refine x_then (hK4 _ _ ?_)
   refine c_ret ?_
   refine x_then_ret (?_)
   refine x_sub (Sub.refl _) (H' := (bS, .cells [.slice ma m.length mc, .slice ta m.length tc, .int .i16 st, vh, vw, ve, .int .i64 steps].toArray 81 (0, 0)) :: (St ++ Sl)) hzB ?_
   exact x_ret rfl (.tmp rfl (.nil)) (⟨la, lc, mt, St, Sl, steps, by rw [hcl]; rfl, rfl, hT, by rw [hcl]; exact hl, by rw [hcl]; exact hM⟩)
  ·
   have hkl : k ∉ l := fun h => hxs (hgx.2 h)
   have hcl : comeL l k = l ++ [k] := if_neg hkl
   refine o_step rfl (step_cast (v' := .bool false) (s_eql rfl rfl) (by rw [decide_eq_false hxs])) ?_
   refine o_nil ?_
   refine x_oneS hzB ?_
   refine e_done (by kernel_rfl) ?_
   refine x_then (hK3 _ _ ?_)
   refine c_false rfl ?_
   refine c_skip ?_
   refine x_then (hK2 _ _ ?_)
   refine c_seq fun _ hK5 => ?_
   refine c_drawE ([(bS, .cells [.slice ma m.length mc, .slice ta m.length tc, .int .i16 st, vh, vw, ve, .int .i64 steps].toArray 81 (0, 0))]) (fun i => false) ?_
   refine e_take 0 rfl (by kernel_rfl) (by kernel_rfl) (by kernel_rfl) (by kernel_rfl) (fun _ _ => rfl) rfl hzB (s_move rfl) ?_
   refine e_take 1 rfl (by kernel_rfl) (by kernel_rfl) (by kernel_rfl) (by kernel_rfl) (fun _ _ => rfl) rfl hzB (s_nil rfl) ?_
   refine e_take 2 rfl (by kernel_rfl) (by kernel_rfl) (by kernel_rfl) (by kernel_rfl) (fun _ _ => rfl) rfl hzB (s_field rfl rfl (by decide)) ?_
   refine e_take 3 rfl (by kernel_rfl) (by kernel_rfl) (by kernel_rfl) (by kernel_rfl) (fun _ _ => rfl) rfl hzB (s_ld rfl (.own meA rfl)) ?_
   refine e_take 4 rfl (by kernel_rfl) (by kernel_rfl) (by kernel_rfl) (by kernel_rfl) (fun _ _ => rfl) rfl hzB (s_move rfl) ?_
   refine e_take 5 rfl (by kernel_rfl) (by kernel_rfl) (by kernel_rfl) (by kernel_rfl) (fun _ _ => rfl) rfl hzB (s_move rfl) ?_
   refine e_take 6 rfl (by kernel_rfl) (by kernel_rfl) (by kernel_rfl) (by kernel_rfl) (fun _ _ => rfl) rfl hzB (s_nil rfl) ?_
   refine e_take 7 rfl (by kernel_rfl) (by kernel_rfl) (by kernel_rfl) (by kernel_rfl) (fun _ _ => rfl) rfl hzB (s_field rfl rfl (by decide)) ?_
   refine e_take 8 rfl (by kernel_rfl) (by kernel_rfl) (by kernel_rfl) (by kernel_rfl) (fun _ _ => rfl) rfl hzB (s_ld rfl (.own meA rfl)) ?_
   refine e_one 9 rfl (by kernel_rfl) ?_
   refine o_step rfl (s_idx rfl rfl (by rw [hml2] at hTs; exact hTs) (by omega)) ?_
   refine o_nil ?_
   refine x_oneS hzB ?_
   refine e_one 10 rfl (by kernel_rfl) ?_
   refine o_stS1 k st hT pkA rfl rfl rfl (by omega) (by omega) fun S' hS' => ?_
   refine o_nil ?_
   refine x_oneS hzB ?_
   refine e_done (by kernel_rfl) ?_
   refine x_then (hK5 _ _ ?_)
   refine c_seq fun _ hK6 => ?_
   refine c_region ?_
   refine o_step rfl (s_move rfl) ?_
   refine o_step rfl (s_nil rfl) ?_
   refine o_step rfl (s_field rfl rfl (by decide)) ?_
   refine o_step rfl (s_ld rfl (.own meA rfl)) ?_
   refine o_step rfl (s_addw rfl rfl) ?_
   refine o_step rfl (s_nil rfl) ?_
   refine o_step rfl (s_field rfl rfl (by decide)) ?_
   refine o_store rfl rfl rfl upA ltA rfl ?_
   refine o_nil ?_
   refine x_then (hK6 _ _ ?_)
   refine c_seq fun _ hK7 => ?_
   refine c_region ?_
   refine o_step rfl (s_move rfl) ?_
   refine o_step rfl (s_move rfl) ?_
   refine o_bs (E := Eix) (xs := [k]) (vs := [_]) rfl rfl rfl rfl rfl (by decide) (by decide) fun b39 S39 hS39 => ?_
   refine o_app hl (hS39.rdk hiA) rfl rfl rfl rfl (by simp; omega) (by simp; omega) rfl pkA fun a40 c40 S40 hS40 => ?_
   refine o_step rfl (s_assign rfl) ?_
   refine o_nil ?_
   refine x_then (hK7 _ _ ?_)
   refine c_ret ?_
   refine ?_
   refine x_sub (Sub.refl _) (H' := (bS, .cells [.slice ma m.length mc, .slice ta m.length tc, .int .i16 st, vh, vw, ve, .int .i64 (IntKind.i64.wrap (steps + 1))].toArray 81 (0, 0)) :: (S' ++ S40)) hzB ?_
   exact x_ret rfl (.tmp rfl (.nil)) (⟨a40, c40, mt.set k st, S', S40, _, by rw [hcl]; rfl, rfl, hS', by rw [hcl]; exact hS40, hM.come hk hkl h0⟩)
end Go.Proofs.YtopmnmigpbdddaaDoor
