/- Part of the proofs over this seat: see the text that holds the theorem. Conditions: each theorem bears its own. -/
import Derived.Test.YtafbigmneipkiaaDoorMB3
namespace Go.HL.Kl.Bk
open Go Go.HL Go.Tab

/-- marks that are an item, whatever stands behind that is no dash; they begin no other way -/
structure Item1 (M : List Mk) (c : Cl) : Prop where
  item : ∀ (rest : List Mk), sg rest 0 45 = false → ∀ (a : Nat) (f : Bool), ∃ t, itemP (M ++ rest) a 0 f = .ok t ∧ t.set = c ∧ t.next = M.length
  head : ∀ (rest : List Mk) (x : UInt8), x = 93 ∨ x = 45 ∨ x = 94 → sg (M ++ rest) 0 x = false
  pos : 0 < M.length
def orC (l : List (List Mk × Cl)) : Cl := l.foldl (fun c q => c ||| q.2) 0
def flatM (l : List (List Mk × Cl)) : List Mk := l.flatMap Prod.fst
theorem orC_snoc (l : List (List Mk × Cl)) (q : List Mk × Cl) : orC (l ++ [q]) = orC l ||| q.2 := by simp [orC]
theorem flatM_snoc (l : List (List Mk × Cl)) (q : List Mk × Cl) : flatM (l ++ [q]) = flatM l ++ q.1 := by simp [flatM]
theorem orC_cons (q : List Mk × Cl) (l : List (List Mk × Cl)) : orC (q :: l) = q.2 ||| orC l := by
  have key : ∀ (l : List (List Mk × Cl)) (c : Cl), l.foldl (fun c q => c ||| q.2) c = c ||| l.foldl (fun c q => c ||| q.2) 0 := by
    intro l
    induction l with
    | nil => intro c; simp
    | cons x l ih =>
      intro c
      simp only [List.foldl_cons]
      rw [ih (c ||| x.2), ih ((0 : Cl) ||| x.2)]
      simp [BitVec.or_assoc]
  simp only [orC, List.foldl_cons]
  rw [key l ((0 : Cl) ||| q.2)]
  simp
theorem loop_items (bh : List Mk) (a : Nat) : ∀ (l : List (List Mk × Cl)) (A : List Mk) (n : Nat) (f : Bool) (c : Cl), l ≠ [] → (∀ q ∈ l, Item1 q.1 q.2) → l.length ≤ n →
    loopP (A ++ (flatM l ++ (sgn 93 :: bh))) a n A.length f c = .ok (c ||| orC l) (A.length + (flatM l).length)
  | [], _, _, _, _, h, _, _ => absurd rfl h
  | _ :: _, _, 0, _, _, _, _, h => by simp at h
  | q :: l, A, n + 1, f, c, _, hr, hn => by
    have hq := hr q List.mem_cons_self
    have e : A ++ (flatM (q :: l) ++ (sgn 93 :: bh)) = A ++ (q.1 ++ (flatM l ++ (sgn 93 :: bh))) := by simp [flatM]
    have hd : ∀ x, x = 93 ∨ x = 45 → sg (flatM l ++ (sgn 93 :: bh)) 0 x = (decide (l = []) && decide (x = 93)) := by
      intro x hx
      cases l with
      | nil => rcases hx with rfl | rfl <;> rfl
      | cons q' l' =>
        have := (hr q' (by simp)).head (flatM l' ++ (sgn 93 :: bh)) x (hx.elim .inl fun h => .inr (.inl h))
        rw [flatM, List.flatMap_cons, List.append_assoc]
        show sg (q'.1 ++ (flatM l' ++ (sgn 93 :: bh))) 0 x = _
        rw [this]; simp
    obtain ⟨t, ht, hs, hx⟩ := hq.item (flatM l ++ (sgn 93 :: bh)) (by rw [hd 45 (.inr rfl)]; simp) 0 f
    have hi := itemP_pre (A := A) (a' := a) ht
    rw [e]
    simp only [loopP, hi]
    have g : sg (A ++ (q.1 ++ (flatM l ++ (sgn 93 :: bh)))) (A.length + t.next) 93 = decide (l = []) := by
      rw [hx, ← List.append_assoc, ← List.length_append]
      have := sg_app (A := A ++ q.1) (l := flatM l ++ (sgn 93 :: bh)) (i := 0) (b := 93)
      rw [Nat.add_zero] at this
      rw [this, hd 93 (.inl rfl)]; simp
    rw [g, hs, hx, orC_cons]
    cases l with
    | nil =>
      rw [if_pos (by simp)]
      simp [orC, flatM]
    | cons q' l' =>
      rw [if_neg (by simp)]
      have ih := loop_items bh a (q' :: l') (A ++ q.1) n false (c ||| q.2) (by simp) (fun q hq => hr q (List.mem_cons_of_mem _ hq)) (by simp at hn ⊢; omega)
      rw [List.append_assoc, List.length_append] at ih
      rw [ih]
      congr 1
      · rw [BitVec.or_assoc]
      · simp only [flatM, List.flatMap_cons, List.length_append]; omega
theorem flatM_len : ∀ (l : List (List Mk × Cl)), (∀ q ∈ l, Item1 q.1 q.2) → l.length ≤ (flatM l).length
  | [], _ => by simp
  | q :: l, h => by
    have h1 := (h q List.mem_cons_self).pos
    have h2 := flatM_len l fun q hq => h q (List.mem_cons_of_mem _ hq)
    simp only [flatM, List.flatMap_cons, List.length_append, List.length_cons] at h2 ⊢
    omega
/-- a bracket of items is the class of these; with ^ ahead all other bytes -/
theorem items_parse (no : Bool) (l : List (List Mk × Cl)) (hne : l ≠ []) (hl : ∀ q ∈ l, Item1 q.1 q.2) :
    parseP (sgn 91 :: ((if no = true then [sgn 94] else []) ++ (flatM l ++ [sgn 93]))) 0 = ((if no = true then ~~~(orC l) else orC l), ((sgn 91 :: ((if no = true then [sgn 94] else []) ++ (flatM l ++ [sgn 93]))).length : Int), 0) := by
  generalize hL : sgn 91 :: ((if no = true then [sgn 94] else []) ++ (flatM l ++ [sgn 93])) = L
  have h0 : sg L 0 91 = true := by rw [← hL]; rfl
  have h1 : sg L 1 94 = no := by
    rw [← hL]
    cases no with
    | true => rfl
    | false =>
      cases hq : l with
      | nil => exact absurd hq hne
      | cons q r =>
        have h2 := (hl q (by rw [hq]; exact List.mem_cons_self)).head (flatM r ++ [sgn 93]) 94 (.inr (.inr rfl))
        have h3 := sg_app (A := [sgn 91]) (l := q.1 ++ (flatM r ++ [sgn 93])) (i := 0) (b := 94)
        rw [h2] at h3
        have e : sgn 91 :: ((if false = true then [sgn 94] else []) ++ (flatM (q :: r) ++ [sgn 93])) = [sgn 91] ++ (q.1 ++ (flatM r ++ [sgn 93])) := by simp [flatM]
        rw [e]; exact h3
  have hfl := flatM_len l hl
  have hlen : L.length = 1 + (if no = true then 1 else 0) + (flatM l).length + 1 := by
    rw [← hL]; cases no <;> simp <;> omega
  have hp := loop_items [] 0 l (sgn 91 :: (if no = true then [sgn 94] else [])) (L.length + 1) true 0 hne hl (by omega)
  have eL : (sgn 91 :: (if no = true then [sgn 94] else [])) ++ (flatM l ++ (sgn 93 :: [])) = L := by rw [← hL]; simp
  have eA : (sgn 91 :: (if no = true then [sgn 94] else [])).length = 1 + (if sg L 1 94 = true then 1 else 0) := by
    rw [h1]; split <;> simp
  rw [eL, eA] at hp
  have := parseP_ok (A := []) h0 hp
  simp only [List.nil_append, List.length_nil] at this
  have h5 : parseP L 0 = _ := this
  rw [h5, h1]
  refine Prod.ext ?_ (Prod.ext ?_ rfl)
  · show (if no = true then ~~~((0 : Cl) ||| orC l) else (0 : Cl) ||| orC l) = _
    simp
  · rw [h1] at eA
    have eA' : (sgn 91 :: (if no = true then [sgn 94] else [])).length = 1 + (if no = true then 1 else 0) := eA
    dsimp only
    rw [hlen]
    generalize (if no = true then 1 else 0 : Nat) = kk
    omega

/-! the items that are written beyond doubt -/
theorem item_plain (b : UInt8) : Item1 [⟨b, true⟩] (ofL [b]) := by
  refine ⟨fun rest hr a f => ⟨⟨ofL [b], b, true, 1⟩, ?_, rfl, rfl⟩, fun rest x _ => by simp [sg], by simp⟩
  have h3 : sg ([⟨b, true⟩] ++ rest) 1 45 = false := by
    have := sg_app (A := [⟨b, true⟩]) (l := rest) (i := 0) (b := 45)
    simp only [List.length_singleton, Nat.add_zero] at this
    rw [this, hr]
  have h4 : ∀ x, sg ([⟨b, true⟩] ++ rest) 0 x = false := fun x => by simp [sg]
  have t1 : thP ([⟨b, true⟩] ++ rest) a 0 = .ok ⟨ofL [b], b, true, 1⟩ := by
    unfold thP
    rw [if_neg (by simp), if_neg (by rw [h4]; simp)]
    simp [oneP, mk0]
  simp only [itemP, t1]
  rw [if_neg (by rw [h4]; simp), if_pos (.inl h3)]
def encM (y b : UInt8) : List Mk := [sgn 91, sgn y, sgn b, sgn y, sgn 93]
theorem thP_enc (y b : UInt8) (hy : y = 46 ∨ y = 61) (rest : List Mk) (a : Nat) : thP (encM y b ++ rest) a 0 = .ok ⟨ofL [b], b, y == 46, 5⟩ := by
  rcases hy with rfl | rfl <;> simp [thP, encP, encM, sg, sgn, mk0]
theorem encM_head (y b : UInt8) (rest : List Mk) {x : UInt8} (hx : x = 93 ∨ x = 45 ∨ x = 94) : sg (encM y b ++ rest) 0 x = false := by
  rcases hx with rfl | rfl | rfl <;> simp [encM, sg, sgn]
theorem item_enc (y b : UInt8) (hy : y = 46 ∨ y = 61) : Item1 (encM y b) (ofL [b]) := by
  refine ⟨fun rest hr a f => ⟨⟨ofL [b], b, y == 46, 5⟩, ?_, rfl, rfl⟩, fun rest x hx => encM_head y b rest hx, by simp [encM]⟩
  have h3 : sg (encM y b ++ rest) 5 45 = false := by
    have := sg_app (A := encM y b) (l := rest) (i := 0) (b := 45)
    rw [show (encM y b).length + 0 = 5 by simp [encM]] at this
    rw [this, hr]
  simp only [itemP, thP_enc y b hy]
  rw [if_neg (by rw [encM_head y b rest (.inr (.inl rfl))]; simp), if_pos (.inl h3)]
theorem item_range (lo hi : UInt8) (h : lo.toNat ≤ hi.toNat) : Item1 (encM 46 lo ++ [sgn 45] ++ encM 46 hi) (rng lo.toNat hi.toNat) := by
  refine ⟨fun rest hr a f => ⟨⟨rng lo.toNat hi.toNat, 0, false, 11⟩, ?_, rfl, by simp [encM]⟩, fun rest x hx => by rw [List.append_assoc, List.append_assoc]; exact encM_head 46 lo _ hx, by simp [encM]⟩
  have t1 : thP (encM 46 lo ++ [sgn 45] ++ encM 46 hi ++ rest) a 0 = .ok ⟨ofL [lo], lo, true, 5⟩ := by
    rw [List.append_assoc, List.append_assoc]; exact thP_enc 46 lo (.inl rfl) _ a
  have t2 : thP (encM 46 lo ++ [sgn 45] ++ encM 46 hi ++ rest) a 6 = .ok ⟨ofL [hi], hi, true, 11⟩ := by
    have := thP_app (A := encM 46 lo ++ [sgn 45]) (l := encM 46 hi ++ rest) (a := 0) (i := 0)
    rw [thP_enc 46 hi (.inl rfl), ← List.append_assoc] at this
    exact thP_ok this
  have g1 : sg (encM 46 lo ++ [sgn 45] ++ encM 46 hi ++ rest) 0 45 = false := by simp [encM, sg, sgn]
  have g2 : sg (encM 46 lo ++ [sgn 45] ++ encM 46 hi ++ rest) 5 45 = true := by simp [encM, sg, sgn]
  have g3 : sg (encM 46 lo ++ [sgn 45] ++ encM 46 hi ++ rest) 6 93 = false := by simp [encM, sg, sgn]
  simp only [itemP, t1, t2]
  rw [if_neg (by rw [g1]; simp), if_neg (by
    rintro (h | h | h)
    · rw [g2] at h; cases h
    · simp [encM] at h
    · rw [g3] at h; cases h), if_neg (by decide), if_neg (by
    rintro (h' | h')
    · cases h'
    · omega)]
theorem nameEnd_letters (rest : List Mk) : ∀ (nm : List UInt8), (∀ b ∈ nm, b ≠ 58) → ∀ (A : List Mk) (n : Nat), nm.length < n → nameEnd (A ++ (nm.map sgn ++ (sgn 58 :: sgn 93 :: rest))) n A.length = some (A.length + nm.length)
  | _, _, _, 0, h => by omega
  | [], _, A, n + 1, _ => by
    have h1 := sg_app (A := A) (l := sgn 58 :: sgn 93 :: rest) (i := 0) (b := 58)
    have h2 := sg_app (A := A) (l := sgn 58 :: sgn 93 :: rest) (i := 1) (b := 93)
    rw [Nat.add_zero] at h1
    simp only [nameEnd, List.map_nil, List.nil_append, h1, h2]
    rfl
  | b :: nm, hb, A, n + 1, h => by
    have h1 := sg_app (A := A) (l := (b :: nm).map sgn ++ (sgn 58 :: sgn 93 :: rest)) (i := 0) (b := 58)
    rw [Nat.add_zero] at h1
    have h2 : sg ((b :: nm).map sgn ++ (sgn 58 :: sgn 93 :: rest)) 0 58 = false := by
      have := hb b List.mem_cons_self
      simp [sg, sgn, this]
    simp only [nameEnd, h1, h2, Bool.false_and]
    have ih := nameEnd_letters rest nm (fun x hx => hb x (List.mem_cons_of_mem _ hx)) (A ++ [sgn b]) n (by simp at h; omega)
    simp only [List.append_assoc, List.singleton_append, List.length_append, List.length_singleton] at ih
    rw [if_neg (by decide)]
    simp only [List.map_cons, List.cons_append, List.length_cons] at ih ⊢
    rw [ih]
    congr 1; omega
def nameM (nm : List UInt8) : List Mk := sgn 91 :: sgn 58 :: (nm.map sgn ++ [sgn 58, sgn 93])
theorem item_name (nm : List UInt8) (hb : ∀ b ∈ nm, b ≠ 58) (c : Cl) (hc : named ⟨nm.toArray⟩ = some c) : Item1 (nameM nm) c := by
  refine ⟨fun rest hr a f => ⟨⟨c, 0, false, nm.length + 4⟩, ?_, rfl, by simp [nameM]⟩, fun rest x hx => by rcases hx with rfl | rfl | rfl <;> simp [nameM, sg, sgn], by simp [nameM]⟩
  have e : nameM nm ++ rest = [sgn 91, sgn 58] ++ (nm.map sgn ++ (sgn 58 :: sgn 93 :: rest)) := by simp [nameM]
  have hk := nameEnd_letters rest nm hb [sgn 91, sgn 58] ((nameM nm ++ rest).length - 2) (by simp [nameM])
  rw [← e] at hk
  have hbs : bytesM (nameM nm ++ rest) 2 (2 + nm.length) = nm := by
    rw [e]
    have := bytesM_app (A := [sgn 91, sgn 58]) (l := nm.map sgn ++ (sgn 58 :: sgn 93 :: rest)) (i := 0) (k := nm.length)
    simp only [List.length_cons, List.length_nil, Nat.add_zero] at this
    rw [this]
    have h1 : (nm.map sgn ++ (sgn 58 :: sgn 93 :: rest)).take nm.length = nm.map sgn := by
      rw [List.take_append_of_le_length (by simp), List.take_of_length_le (by simp)]
    simp only [bytesM, List.drop_zero, Nat.sub_zero, h1, List.map_map]
    have : (Mk.b ∘ sgn) = id := rfl
    rw [this, List.map_id]
  have t1 : thP (nameM nm ++ rest) a 0 = .ok ⟨c, 0, false, nm.length + 4⟩ := by
    unfold thP
    rw [if_neg (by simp [nameM]), if_pos ⟨by simp [nameM, sg, sgn], by simp [nameM], by simp [nameM, mk0, sgn]⟩, if_pos (by simp [nameM, mk0, sgn])]
    unfold nameP
    have hk' : nameEnd (nameM nm ++ rest) ((nameM nm ++ rest).length - (0 + 2)) (0 + 2) = some (2 + nm.length) := hk
    rw [hk']
    have hbs' : bytesM (nameM nm ++ rest) (0 + 2) (2 + nm.length) = nm := hbs
    simp only [hbs', hc]
    congr 2; omega
  have g1 : sg (nameM nm ++ rest) 0 45 = false := by simp [nameM, sg, sgn]
  have h3 : sg (nameM nm ++ rest) (nm.length + 4) 45 = false := by
    have := sg_app (A := nameM nm) (l := rest) (i := 0) (b := 45)
    rw [show (nameM nm).length + 0 = nm.length + 4 by simp [nameM]] at this
    rw [this, hr]
  simp only [itemP, t1]
  rw [if_neg (by rw [g1]; simp), if_pos (.inl h3)]
end Go.HL.Kl.Bk
