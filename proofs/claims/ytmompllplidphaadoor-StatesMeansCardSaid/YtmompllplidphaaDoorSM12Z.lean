/- The first text that one of two machines takes alone: the program's search. Conditions: none. -/
import Derived.Test.YtmompllplidphaaDoorSW9Z
import Derived.Test.YtmompllplidphaaDoorSW10Z
namespace Go.HL.Sts
open Go Go.HL Go.HL.Kl Go.HL.Kl.Mc
structure Bo where
  p : Int
  q : Int
  frm : Int
  by_ : Nat
def EBo (x : Bo) : List Value := [.int .i64 x.p, .int .i64 x.q, .int .i64 x.frm, .int .u8 x.by_]
instance : Enc EBo 4 := ⟨fun _ => rfl, fun _ _ h => by simp [EBo] at h; rcases h with rfl | rfl | rfl | rfl <;> rfl⟩
def Bo.pq (x : Bo) : Int × Int := (x.p, x.q)
def gP (d : Df) (q : Int) (c : Nat) : Int := if q < 0 then -1 else nxt d q (lst d.atoms c d.atoms.length)
def unRow (a b : Df) (i : Nat) (x : Bo) : Nat → List Bo → List Bo
  | 0, l => l
  | c + 1, l => if (gP a x.p c, gP b x.q c) ∈ (unRow a b i x c l).map Bo.pq then unRow a b i x c l else unRow a b i x c l ++ [⟨gP a x.p c, gP b x.q c, i, c⟩]
def backT (l : List Bo) : Nat → Bo → List UInt8
  | 0, _ => []
  | f + 1, x => if x.frm < 0 then [] else UInt8.ofNat x.by_ :: backT l f (l[x.frm.toNat]?.getD ⟨0, 0, -1, 0⟩)
def back (l : List Bo) (x : Bo) : List UInt8 := backT l (x.frm + 1).toNat x
def unRun (a b : Df) : Nat → Nat → List Bo → Option (List UInt8)
  | 0, _, _ => none
  | f + 1, i, l => match l[i]? with
    | none => none
    | some x => if endsR a x.p = endsR b x.q then unRun a b f (i + 1) (unRow a b i x 256 l) else some (back l x).reverse
def unM (a b : Df) : Option (List UInt8) := if shP a && shP b then unRun a b 66051 0 [⟨0, 0, -1, 0⟩] else none
/-- what the list keeps -/
structure UnI (a b : Df) (l : List Bo) : Prop where
  nd : (l.map Bo.pq).Nodup
  bp : ∀ x ∈ l, -1 ≤ x.p ∧ x.p < a.ends.length
  bq : ∀ x ∈ l, -1 ≤ x.q ∧ x.q < b.ends.length
  fr : ∀ (k : Nat) (x : Bo), l[k]? = some x → -1 ≤ x.frm ∧ x.frm < k
  by_ : ∀ x ∈ l, x.by_ < 256
theorem UnI.one {a b : Df} (ha : 1 ≤ a.ends.length) (hb : 1 ≤ b.ends.length) : UnI a b [⟨0, 0, -1, 0⟩] := by
  refine ⟨by simp, ?_, ?_, ?_, ?_⟩
  · intro x hx; rw [List.mem_singleton.1 hx]; exact ⟨by decide, by show (0 : Int) < _; omega⟩
  · intro x hx; rw [List.mem_singleton.1 hx]; exact ⟨by decide, by show (0 : Int) < _; omega⟩
  · intro k x hx
    cases k with
    | zero => simp at hx; subst hx; exact ⟨by decide, by decide⟩
    | succ k => simp at hx
  · intro x hx; rw [List.mem_singleton.1 hx]; decide
theorem UnI.push {a b : Df} {l : List Bo} (h : UnI a b l) {p q : Int} {i c : Nat} (hn : (p, q) ∉ l.map Bo.pq) (hp : -1 ≤ p ∧ p < a.ends.length) (hq : -1 ≤ q ∧ q < b.ends.length) (hi : i < l.length) (hc : c < 256) : UnI a b (l ++ [⟨p, q, i, c⟩]) := by
  refine ⟨?_, ?_, ?_, ?_, ?_⟩
  · rw [List.map_append, List.nodup_append]
    refine ⟨h.nd, by simp, fun x hx y hy => ?_⟩
    simp only [List.map_cons, List.map_nil, List.mem_singleton] at hy
    subst hy
    rintro rfl
    exact hn hx
  · intro x hx
    rcases List.mem_append.1 hx with hx | hx
    · exact h.bp x hx
    · rw [List.mem_singleton.1 hx]; exact hp
  · intro x hx
    rcases List.mem_append.1 hx with hx | hx
    · exact h.bq x hx
    · rw [List.mem_singleton.1 hx]; exact hq
  · intro k x hx
    rcases Nat.lt_or_ge k l.length with hk | hk
    · rw [List.getElem?_append_left hk] at hx
      exact h.fr k x hx
    · rw [List.getElem?_append_right hk] at hx
      have := List.mem_singleton.1 (List.mem_of_getElem? hx)
      subst this
      exact ⟨by show (-1 : Int) ≤ (i : Int); omega, by show (i : Int) < (k : Int); omega⟩
  · intro x hx
    rcases List.mem_append.1 hx with hx | hx
    · exact h.by_ x hx
    · rw [List.mem_singleton.1 hx]; exact hc
theorem UnI.len {a b : Df} {l : List Bo} (h : UnI a b l) (ha : a.ends.length ≤ 256) (hb : b.ends.length ≤ 256) : l.length ≤ 66049 := by
  have hn : (l.map fun x => (x.p + 1).toNat * 257 + (x.q + 1).toNat).Nodup := by
    have h1 := h.nd
    rw [List.nodup_iff_pairwise_ne, List.pairwise_map] at h1 ⊢
    refine h1.imp_of_mem ?_
    intro x y hx hy hxy he
    have p1 := h.bp x hx
    have p2 := h.bp y hy
    have q1 := h.bq x hx
    have q2 := h.bq y hy
    apply hxy
    have e1 : (x.p + 1).toNat = (y.p + 1).toNat := by omega
    have e2 : (x.q + 1).toNat = (y.q + 1).toNat := by omega
    exact Prod.ext (by show x.p = y.p; omega) (by show x.q = y.q; omega)
  have := Sts.nodup_lt hn (n := 66049) (fun z hz => by
    obtain ⟨x, hx, rfl⟩ := List.mem_map.1 hz
    have p1 := h.bp x hx
    have q1 := h.bq x hx
    omega)
  simpa using this
theorem gP_bnd {d : Df} (h : Shp d) {q : Int} (hq : q < d.ends.length) (c : Nat) : -1 ≤ gP d q c ∧ gP d q c < d.ends.length := by
  unfold gP
  have := h.sz.1
  split
  · omega
  · exact h.nxt_ok (by omega) hq (lst_lt _ _ h.sz.2.2.2.1)
theorem unRow_old {a b : Df} {i : Nat} {x : Bo} {c : Nat} {l : List Bo} (h : (gP a x.p c, gP b x.q c) ∈ (unRow a b i x c l).map Bo.pq) : unRow a b i x (c + 1) l = unRow a b i x c l := by
  conv => lhs; unfold unRow
  rw [if_pos h]
theorem unRow_new {a b : Df} {i : Nat} {x : Bo} {c : Nat} {l : List Bo} (h : (gP a x.p c, gP b x.q c) ∉ (unRow a b i x c l).map Bo.pq) : unRow a b i x (c + 1) l = unRow a b i x c l ++ [⟨gP a x.p c, gP b x.q c, i, c⟩] := by
  conv => lhs; unfold unRow
  rw [if_neg h]
theorem backT_fuel {a b : Df} {l : List Bo} (h : UnI a b l) : ∀ (N f : Nat), f ≤ N → ∀ (k : Nat) (x : Bo), l[k]? = some x → (x.frm + 1).toNat ≤ f → backT l f x = back l x
  | N, 0, _, k, x, hx, hf => by
    unfold back
    rw [show (x.frm + 1).toNat = 0 by omega]
  | 0, f + 1, hN, _, _, _, _ => by omega
  | N + 1, f + 1, hN, k, x, hx, hf => by
    unfold back
    have h1 := h.fr k x hx
    by_cases hn : x.frm < 0
    · rw [show (x.frm + 1).toNat = 0 by omega]
      simp [backT, hn]
    · rw [show (x.frm + 1).toNat = x.frm.toNat + 1 by omega]
      have hk := (List.getElem?_eq_some_iff.1 hx).1
      obtain ⟨y, hy⟩ : ∃ y, l[x.frm.toNat]? = some y := ⟨_, List.getElem?_eq_getElem (by omega)⟩
      have h2 := h.fr _ y hy
      simp only [backT, if_neg hn, hy, Option.getD_some]
      rw [backT_fuel h N f (by omega) _ y hy (by omega), backT_fuel h N x.frm.toNat (by omega) _ y hy (by omega)]
theorem back_end {l : List Bo} {x : Bo} (h : x.frm < 0) : back l x = [] := by
  unfold back
  cases e : (x.frm + 1).toNat with
  | zero => rfl
  | succ n => simp [backT, h]
theorem back_step {a b : Df} {l : List Bo} (h : UnI a b l) {k : Nat} {x y : Bo} (hx : l[k]? = some x) (hn : ¬ x.frm < 0) (hy : l[x.frm.toNat]? = some y) : back l x = UInt8.ofNat x.by_ :: back l y := by
  have h2 := h.fr _ y hy
  conv => lhs; unfold back
  rw [show (x.frm + 1).toNat = x.frm.toNat + 1 by omega]
  simp only [backT, if_neg hn, hy, Option.getD_some]
  rw [backT_fuel h _ x.frm.toNat (Nat.le_refl _) _ y hy (by omega)]
theorem unRun_step {a b : Df} {f i : Nat} {l : List Bo} {x : Bo} (hf : 0 < f) (hx : l[i]? = some x) (he : endsR a x.p = endsR b x.q) : unRun a b f i l = unRun a b (f - 1) (i + 1) (unRow a b i x 256 l) := by
  obtain ⟨g, rfl⟩ : ∃ g, f = g + 1 := ⟨f - 1, by omega⟩
  simp only [unRun, hx, if_pos he, Nat.add_sub_cancel]
theorem unRun_hit {a b : Df} {f i : Nat} {l : List Bo} {x : Bo} (hf : 0 < f) (hx : l[i]? = some x) (he : endsR a x.p ≠ endsR b x.q) : unRun a b f i l = some (back l x).reverse := by
  obtain ⟨g, rfl⟩ : ∃ g, f = g + 1 := ⟨f - 1, by omega⟩
  simp only [unRun, hx, if_neg he]
theorem unRun_end {a b : Df} {f i : Nat} {l : List Bo} (hx : l.length ≤ i) : unRun a b f i l = none := by
  cases f with
  | zero => rfl
  | succ g => simp only [unRun, List.getElem?_eq_none hx]
/-! a map that bears a set -/
def memM {α : Type} [DecidableEq α] (l : List α) (s : α) : Option Value := if s ∈ l then some (.int .i64 1) else none
theorem memM_in {α : Type} [DecidableEq α] {l : List α} {s : α} (h : s ∈ l) : memM l s = some (.int .i64 1) := by simp [memM, h]
theorem memM_out {α : Type} [DecidableEq α] {l : List α} {s : α} (h : s ∉ l) : memM l s = none := by simp [memM, h]
theorem memM_add {α : Type} [DecidableEq α] {l : List α} {s : α} {g g' : α → Option Value} (h : ∀ j, g j = memM l j) (h' : ∀ j, g' j = if j = s then some (.int .i64 1) else g j) : ∀ j, g' j = memM (l ++ [s]) j := by
  intro j
  rw [h']
  by_cases e : j = s
  · subst e; rw [if_pos rfl, memM_in (by simp)]
  · rw [if_neg e, h]
    by_cases hm : j ∈ l
    · rw [memM_in hm, memM_in (by simp [hm])]
    · rw [memM_out hm, memM_out (by simp [hm, e])]
/-! a list turned round, step by step -/
structure RvI {α : Type} (xs l : List α) (i : Nat) : Prop where
  len : l.length = xs.length
  at_ : ∀ k, k < xs.length → l[k]? = if k < i ∨ xs.length - 1 - k < i then xs[xs.length - 1 - k]? else xs[k]?
theorem RvI.zero {α : Type} (xs : List α) : RvI xs xs 0 := ⟨rfl, fun k hk => by rw [if_neg (by omega)]⟩
theorem RvI.done {α : Type} {xs l : List α} {i : Nat} (h : RvI xs l i) (hi : xs.length ≤ 2 * i + 1) : l = xs.reverse := by
  apply List.ext_getElem?
  intro k
  rcases Nat.lt_or_ge k xs.length with hk | hk
  · rw [h.at_ k hk, List.getElem?_reverse hk]
    by_cases e : k < i ∨ xs.length - 1 - k < i
    · rw [if_pos e]
    · rw [if_neg e, show xs.length - 1 - k = k by omega]
  · rw [List.getElem?_eq_none (by rw [h.len]; exact hk), List.getElem?_eq_none (by simp; exact hk)]
theorem RvI.step {α : Type} {xs l : List α} {i : Nat} {x y : α} (h : RvI xs l i) (hi : 2 * i + 1 < xs.length) (hx : l[i]? = some x) (hy : l[xs.length - 1 - i]? = some y) : RvI xs ((l.set i y).set (xs.length - 1 - i) x) (i + 1) := by
  refine ⟨by simp [h.len], fun k hk => ?_⟩
  have hl := h.len
  have hi' := h.at_ i (by omega)
  have hj' := h.at_ (xs.length - 1 - i) (by omega)
  rw [if_neg (by omega), hx] at hi'
  rw [if_neg (by omega), hy] at hj'
  rw [List.getElem?_set, List.length_set]
  by_cases e1 : xs.length - 1 - i = k
  · rw [if_pos e1, if_pos (by omega), if_pos (by omega), hi']
    congr 1; omega
  · rw [if_neg e1, List.getElem?_set]
    by_cases e2 : i = k
    · subst e2
      rw [if_pos rfl, if_pos (by omega), if_pos (by omega), hj']
    · rw [if_neg e2, h.at_ k hk]
      by_cases e3 : k < i ∨ xs.length - 1 - k < i
      · rw [if_pos e3, if_pos (by omega)]
      · rw [if_neg e3, if_neg (by omega)]
end Go.HL.Sts
namespace Go.Proofs.YtmompllplidphaaDoor
open Go Go.HL Go.Proofs Go.HL.Kl Go.HL.Kl.Mc Go.HL.Sts
def EkQ (t : Int × Int) : Value := .agg (intsV .i64 [t.1, t.2]).toArray
instance kQ109 : QK Tryd.prog 109 true 2 2 := QK.arr (m := 2) (e := 3) (se := 1) (QK.int (t := 3))
instance keQ : KE Tryd.prog 109 EkQ := KE.ofA (Ei := fun p : Int × Int => [p.1, p.2]) (fun _ => rfl) (fun a b h => by
  simp only [List.cons.injEq, and_true] at h
  exact Prod.ext h.1 h.2) (by decide) ⟨_, _, Tryd.underlying109⟩
/-- what Unlike answers -/
def UnP (r : Option (List UInt8)) (v : Value) (S : Hp) : Prop := (r = none ∧ v = .tuple #[.slice none 0 0, .bool false]) ∨ ∃ (t : List UInt8) (a : Option Addr) (c : Nat), r = some t ∧ v = .tuple #[.slice a t.length c, .bool true] ∧ OwnS Eb 1 5 (.slice a t.length c) t S
theorem endsU_fn (d : Df) (aa : Option Addr) (ac : Nat) (na : Option Addr) (nc : Nat) (rows : List (Sl Int)) (ea : Option Addr) (ec : Nat) (hx : d.next = rows.map Sl.xs) (q : Int) (hq : q < d.ends.length) : HL.Fn Tryd.prog 69 [.agg [.slice aa d.atoms.length ac, .slice na rows.length nc, .slice ea d.ends.length ec].toArray, .int .i64 q] (fun w => RdD d aa ac na nc rows ea ec w) [] (fun v _ => v = .bool (endsR d q)) := by
  refine fn_of Tryd.func69 rfl rfl rfl fun w0 hw => ?_
  have hse := hw.en.sl
  refine c_seq fun _ hK1 => ?_
  refine c_region ?_
  refine o_box rfl rfl rfl fun b2 => ?_
  refine o_step rfl (s_assign rfl) ?_
  refine o_nil ?_
  refine x_then (hK1 _ _ ?_)
  refine c_seq fun _ hK2 => ?_
  refine c_region ?_
  refine o_step rfl (s_move rfl) ?_
  by_cases hpos : q ≥ 0
  ·
   obtain ⟨q, rfl⟩ := Int.eq_ofNat_of_zero_le hpos
   obtain ⟨e, he⟩ : ∃ e, d.ends[q]? = some e := ⟨_, List.getElem?_eq_getElem (by omega)⟩
   refine o_step rfl (step_cast (v' := .bool true) (s_geq rfl rfl) (congrArg Value.bool (decide_eq_true hpos))) ?_
   refine o_step rfl (s_move rfl) ?_
   refine o_yes rfl rfl ?_
   refine o_step rfl (s_field rfl rfl (by decide)) ?_
   refine o_yes rfl rfl ?_
   refine o_step rfl (s_ld rfl (.own meA rfl)) ?_
   refine o_yes rfl rfl ?_
   refine o_step rfl (s_move rfl) ?_
   refine o_yes rfl rfl ?_
   refine o_step rfl (s_idx rfl rfl hse (by omega)) ?_
   refine o_yes rfl rfl ?_
   refine o_step rfl (s_ld rfl ((RdK.old0 hw.en).ld q 0 he rfl (by decide) (by omega))) ?_
   refine o_step rfl (s_pick_t rfl rfl) ?_
   refine o_step rfl (s_assign rfl) ?_
   refine o_nil ?_
   refine x_then (hK2 _ _ ?_)
   refine c_ret ?_
   refine ?_
   exact x_ret rfl (.tmp rfl (.nil)) (congrArg Value.bool (by simp [endsR, he]))
  ·
   refine o_step rfl (step_cast (v' := .bool false) (s_geq rfl rfl) (congrArg Value.bool (decide_eq_false hpos))) ?_
   refine o_step rfl (s_move rfl) ?_
   refine o_no rfl rfl rfl rfl ?_
   refine o_no rfl rfl rfl rfl ?_
   refine o_no rfl rfl rfl rfl ?_
   refine o_no rfl rfl rfl rfl ?_
   refine o_no rfl rfl rfl rfl ?_
   refine o_step rfl (s_pick_f rfl rfl) ?_
   refine o_step rfl (s_assign rfl) ?_
   refine o_nil ?_
   refine x_then (hK2 _ _ ?_)
   refine c_ret ?_
   refine ?_
   exact x_ret rfl (.tmp rfl (.nil)) (congrArg Value.bool (by unfold endsR; rw [decide_eq_false (by omega)]; rfl))
theorem goesU_fn (d : Df) (aa : Option Addr) (ac : Nat) (na : Option Addr) (nc : Nat) (rows : List (Sl Int)) (ea : Option Addr) (ec : Nat) (hx : d.next = rows.map Sl.xs) (q : Int) (hq : q < rows.length) (k : Nat) (hK : ∀ s ∈ rows, k < s.xs.length) : HL.Fn Tryd.prog 68 [.agg [.slice aa d.atoms.length ac, .slice na rows.length nc, .slice ea d.ends.length ec].toArray, .int .i64 q, .int .i64 k] (fun w => RdD d aa ac na nc rows ea ec w) [] (fun v _ => v = .int .i64 (if q < 0 then -1 else nxt d q k)) := by
  refine fn_of Tryd.func68 rfl rfl rfl fun w0 hw => ?_
  have hsn := hw.nx.sl
  refine c_seq fun _ hK1 => ?_
  refine c_region ?_
  refine o_box rfl rfl rfl fun b3 => ?_
  refine o_step rfl (s_assign rfl) ?_
  refine o_nil ?_
  refine x_then (hK1 _ _ ?_)
  refine c_seq fun _ hK2 => ?_
  refine c_seq fun _ hK3 => ?_
  refine c_region ?_
  refine o_step rfl (s_move rfl) ?_
  by_cases hneg : q < 0
  ·
   refine o_step rfl (step_cast (v' := .bool true) (s_lss rfl rfl) (congrArg Value.bool (decide_eq_true hneg))) ?_
   refine o_nil ?_
   refine x_then (hK3 _ _ ?_)
   refine c_true rfl ?_
   refine c_seq fun _ hK4 => ?_
   refine c_region ?_
   refine o_step rfl (s_assign rfl) ?_
   refine o_nil ?_
   refine x_then (hK4 _ _ ?_)
   refine c_ret ?_
   refine x_then_ret (?_)
   exact x_ret rfl (.tmp rfl (.nil)) (congrArg (Value.int .i64) (by rw [if_pos hneg]))
  ·
   obtain ⟨q, rfl⟩ := Int.eq_ofNat_of_zero_le (show 0 ≤ q by omega)
   obtain ⟨s, hs⟩ : ∃ s, rows[q]? = some s := ⟨_, List.getElem?_eq_getElem (by omega)⟩
   have hsm := List.mem_of_getElem? hs
   have hsx := (hw.rw_ s hsm).sl
   have hsk := hK s hsm
   have hrow : d.next[q]? = some s.xs := by rw [hx, List.getElem?_map, hs]; rfl
   obtain ⟨v, hv⟩ : ∃ v, s.xs[k]? = some v := ⟨_, List.getElem?_eq_getElem (by omega)⟩
   refine o_step rfl (step_cast (v' := .bool false) (s_lss rfl rfl) (congrArg Value.bool (decide_eq_false hneg))) ?_
   refine o_nil ?_
   refine x_then (hK3 _ _ ?_)
   refine c_false rfl ?_
   refine c_skip ?_
   refine x_then (hK2 _ _ ?_)
   refine c_seq fun _ hK5 => ?_
   refine c_region ?_
   refine o_step rfl (s_field rfl rfl (by decide)) ?_
   refine o_step rfl (s_ld rfl (.own meA rfl)) ?_
   refine o_step rfl (s_move rfl) ?_
   refine o_step rfl (s_idx rfl rfl hsn (by omega)) ?_
   refine o_step rfl (s_ld rfl ((RdK.old0 hw.nx).ld q 0 hs rfl (by decide) (by omega))) ?_
   refine o_step rfl (s_move rfl) ?_
   refine o_step rfl (s_idx rfl rfl hsx (by omega)) ?_
   refine o_step rfl (s_ld rfl ((RdK.old0 (hw.rw_ s hsm)).ld k 0 hv rfl (by decide) (by simp only [Sl.v]; omega))) ?_
   refine o_step rfl (s_assign rfl) ?_
   refine o_nil ?_
   refine x_then (hK5 _ _ ?_)
   refine c_ret ?_
   refine ?_
   exact x_ret rfl (.tmp rfl (.nil)) (congrArg (Value.int .i64) (by rw [if_neg hneg, nxt_get hrow hv]))
set_option maxHeartbeats 1000000 in
theorem reverse_fn (a : Option Addr) (c : Nat) (xs : List UInt8) (S : Hp) (hO : OwnS Eb 1 5 (.slice a xs.length c) xs S) : HL.Fn Tryd.prog 70 [.slice a xs.length c] (fun _ => True) S (fun _ S' => OwnS Eb 1 5 (.slice a xs.length c) xs.reverse S') := by
  refine fn_of Tryd.func70 rfl rfl rfl fun w0 hw => ?_
  have hsx := hO.sl
  have hbx := hsx.le
  refine c_seq fun _ hK1 => ?_
  refine c_region ?_
  refine o_step rfl (s_move rfl) ?_
  refine o_step rfl (s_len rfl) ?_
  refine o_step rfl (s_sub rfl rfl (by omega)) ?_
  refine o_step rfl (s_assign rfl) ?_
  refine o_step rfl (s_assign rfl) ?_
  refine o_nil ?_
  refine x_then (hK1 _ _ ?_)
  refine c_block ?_
  refine c_loop4 (fun (i : Nat) (jj : Int) (l : List UInt8) (Sl0 : Hp) => jj = (xs.length : Int) - 1 - i ∧ i ≤ xs.length ∧ 2 * i ≤ xs.length + 1 ∧ RvI xs l i ∧ OwnS Eb 1 5 (.slice a xs.length c) l Sl0) (fun (i : Nat) (jj : Int) (l : List UInt8) (Sl0 : Hp) => [(2, .int .i64 i), (3, .int .i64 jj)]) [(0, _)] (fun (i : Nat) (jj : Int) (l : List UInt8) (Sl0 : Hp) => Sl0) (fun (i : Nat) (jj : Int) (l : List UInt8) (Sl0 : Hp) => xs.length - i) 0 ((xs.length : Int) - 1) xs S ⟨by omega, Nat.zero_le _, by omega, RvI.zero _, hO⟩ sbA sbA hzB ?_
  rintro i jj l Sl0 ⟨hjj, hi, hi2, hR, hL⟩
  have hll := hR.len
  have hsl0 := hL.sl
  rw [hll] at hsl0
  refine c_seq fun _ hK2 => ?_
  refine c_seq fun _ hK3 => ?_
  refine c_region ?_
  refine o_step rfl (s_move rfl) ?_
  refine o_step rfl (s_move rfl) ?_
  by_cases hlt : 2 * i + 1 < xs.length
  ·
   obtain ⟨x, hxi⟩ : ∃ x, l[i]? = some x := ⟨_, List.getElem?_eq_getElem (by omega)⟩
   obtain ⟨y, hyj⟩ : ∃ y, l[xs.length - 1 - i]? = some y := ⟨_, List.getElem?_eq_getElem (by omega)⟩
   refine o_step rfl (step_cast (v' := .bool true) (s_lss rfl rfl) (congrArg Value.bool (decide_eq_true (by omega)))) ?_
   refine o_nil ?_
   refine x_then (hK3 _ _ ?_)
   refine c_true rfl ?_
   refine c_skip ?_
   refine x_then (hK2 _ _ ?_)
   refine c_seq fun _ hK4 => ?_
   refine c_block ?_
   refine c_drawE (Sl0) (fun i => Nat.beq i 13 || Nat.beq i 15) ?_
   refine e_pure 0 rfl (by kernel_rfl) (by kernel_rfl) (by kernel_rfl) rfl (s_move rfl) ?_
   refine e_pure 1 rfl (by kernel_rfl) (by kernel_rfl) (by kernel_rfl) rfl (s_move rfl) ?_
   refine e_pure 2 rfl (by kernel_rfl) (by kernel_rfl) (by kernel_rfl) rfl (s_move rfl) ?_
   refine e_pure 3 rfl (by kernel_rfl) (by kernel_rfl) (by kernel_rfl) rfl (s_move rfl) ?_
   refine e_pure 4 rfl (by kernel_rfl) (by kernel_rfl) (by kernel_rfl) rfl (s_move rfl) ?_
   refine e_pure 5 rfl (by kernel_rfl) (by kernel_rfl) (by kernel_rfl) rfl (s_move rfl) ?_
   refine e_pure 6 rfl (by kernel_rfl) (by kernel_rfl) (by kernel_rfl) rfl (s_idx rfl rfl hsl0 (by omega)) ?_
   refine e_take 7 rfl (by kernel_rfl) (by kernel_rfl) (by kernel_rfl) (by kernel_rfl) (fun _ _ => rfl) rfl hzB (s_ld rfl ((hL.rdk hiA).ld (xs.length - 1 - i) 0 hyj rfl (by decide) (by omega))) ?_
   refine e_pure 8 rfl (by kernel_rfl) (by kernel_rfl) (by kernel_rfl) rfl (s_move rfl) ?_
   refine e_pure 9 rfl (by kernel_rfl) (by kernel_rfl) (by kernel_rfl) rfl (s_move rfl) ?_
   refine e_pure 10 rfl (by kernel_rfl) (by kernel_rfl) (by kernel_rfl) rfl (s_idx rfl rfl hsl0 (by omega)) ?_
   refine e_take 11 rfl (by kernel_rfl) (by kernel_rfl) (by kernel_rfl) (by kernel_rfl) (fun _ _ => rfl) rfl hzB (s_ld rfl ((hL.rdk hiA).ld i 0 hxi rfl (by decide) (by omega))) ?_
   refine e_pure 12 rfl (by kernel_rfl) (by kernel_rfl) (by kernel_rfl) rfl (s_idx rfl rfl hsl0 (by omega)) ?_
   refine e_one 13 rfl (by kernel_rfl) ?_
   refine o_stS1 i y hL pkA rfl rfl rfl (by omega) (by omega) fun S26 hS26 => ?_
   refine o_nil ?_
   refine x_oneL rfl ?_
   refine e_pure 14 rfl (by kernel_rfl) (by kernel_rfl) (by kernel_rfl) rfl (s_idx rfl rfl hsl0 (by omega)) ?_
   refine e_one 15 rfl (by kernel_rfl) ?_
   refine o_stS1 (xs.length - 1 - i) x hS26 pkA rfl rfl rfl (by rw [List.length_set]; omega) (by omega) fun S27 hS27 => ?_
   refine o_nil ?_
   refine x_oneL rfl ?_
   refine e_done (by kernel_rfl) ?_
   refine x_block ?_
   refine x_then (hK4 _ _ ?_)
   refine c_region ?_
   refine o_step rfl (s_move rfl) ?_
   refine o_step rfl (s_add rfl rfl (by omega)) ?_
   refine o_step rfl (s_move rfl) ?_
   refine o_step rfl (s_sub rfl rfl (by omega)) ?_
   refine o_step rfl (s_assign rfl) ?_
   refine o_step rfl (s_assign rfl) ?_
   refine o_nil ?_
   exact x_then (x_inv (i + 1, jj - 1, _, _) ⟨by dsimp only; omega, by omega, by omega, hR.step (by omega) hxi hyj, hS27⟩ (by first | omega | (dsimp only; omega)) sbA hzB)
  ·
   rw [hR.done (by omega)] at hL
   refine o_step rfl (step_cast (v' := .bool false) (s_lss rfl rfl) (congrArg Value.bool (decide_eq_false (by omega)))) ?_
   refine o_nil ?_
   refine x_then (hK3 _ _ ?_)
   refine c_false rfl ?_
   refine c_exit ?_
   refine x_then_exit ?_
   refine x_then_exit ?_
   refine x_block_exit ?_
   exact x_end rfl (.nil) (hL)
end Go.Proofs.YtmompllplidphaaDoor
