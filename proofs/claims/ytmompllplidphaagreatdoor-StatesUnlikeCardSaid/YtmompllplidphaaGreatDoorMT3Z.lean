/- Mathematics of machines: where derivations end, the code of a regex, its runs. Conditions: none. -/
import Derived.Test.YtmompllplidphaaGreatDoorHTZ
import Derived.Test.YtmompllplidphaaGreatDoorHlB
namespace Go.HL.Kl.Mc
open Go Go.HL Go.HL.Kl
def pow (D : Nat → Nat → Prop) : Nat → Nat → Nat → Prop
  | 0, p, q => p = q
  | k + 1, p, q => ∃ m, D p m ∧ pow D k m q
def rounds (x : Nd) (D : Nat → Nat → Prop) (p q : Nat) : Prop := ∃ k : Nat, x.mn ≤ (k : Int) ∧ (x.mx = -1 ∨ (k : Int) ≤ x.mx) ∧ pow D k p q
def der (w : List UInt8) : F → Bool → Nat → Nat → Prop
  | .nil, m, p, q => m = false ∧ p = q
  | .nd x ks r, m, p, q =>
    let one : Nat → Nat → Prop := fun p q =>
      if x.op = 1 then q = p + 1 ∧ ∃ b, w[p]? = some b ∧ x.set.getLsbD b.toNat = true
      else if x.op = 2 then p = 0 ∧ q = 0
      else if x.op = 3 then p = w.length ∧ q = p
      else if x.op = 5 then der w ks true p q
      else if x.op = 6 then rounds x (der w ks false) p q
      else der w ks false p q
    if m = true then one p q ∨ der w r true p q else ∃ t, one p t ∧ der w r false t q
structure In where
  op : Int
  set : Cl
  x : Int
  y : Int
  deriving DecidableEq
def Ein (i : In) : List Value := .int .i8 i.op :: (Ec i.set ++ [.int .i64 i.x, .int .i64 i.y])
instance : Enc Ein 7 := ⟨fun x => by simp [Ein, Enc.len], fun x v hv => by
  simp only [Ein, List.mem_cons, List.mem_append, List.not_mem_nil, or_false] at hv
  rcases hv with rfl | hv | rfl | rfl
  · rfl
  · exact Ec_one _ v hv
  all_goals rfl⟩
def lenOne (x : Nd) (cat alt : Nat) : Nat :=
  if x.op = 1 ∨ x.op = 2 ∨ x.op = 3 then 1 else if x.op = 5 then alt
  else if x.op = 6 then x.mn.toNat * cat + (if x.mx = -1 then cat + 2 else (x.mx - x.mn).toNat * (cat + 1)) else cat
def lenM : F → Bool → Nat
  | .nil, _ => 0
  | .nd x ks r, m => lenOne x (lenM ks false) (lenM ks true) + (if m = true then (match r with | .nil => 0 | _ => 2) else 0) + lenM r m
def copies (c : Nat → List In) (L : Nat) : Nat → Nat → List In
  | 0, _ => []
  | k + 1, b => c b ++ copies c L k (b + L)
def opts (c : Nat → List In) (L e : Nat) : Nat → Nat → List In
  | 0, _ => []
  | k + 1, b => ⟨5, 0, (b + 1 : Nat), e⟩ :: (c (b + 1) ++ opts c L e k (b + 1 + L))
def repC (x : Nd) (c : Nat → List In) (L b : Nat) : List In :=
  copies c L x.mn.toNat b ++
    (let b1 := b + x.mn.toNat * L
     if x.mx = -1 then ⟨5, 0, (b1 + 1 : Nat), (b1 + L + 2 : Nat)⟩ :: (c (b1 + 1) ++ [⟨4, 0, (b1 : Nat), 0⟩])
     else opts c L (b1 + (x.mx - x.mn).toNat * (L + 1)) (x.mx - x.mn).toNat b1)
def oneC (x : Nd) (c a : Nat → List In) (L b : Nat) : List In :=
  if x.op = 1 then [⟨1, x.set, 0, 0⟩] else if x.op = 2 then [⟨2, 0, 0, 0⟩] else if x.op = 3 then [⟨3, 0, 0, 0⟩]
  else if x.op = 5 then a b else if x.op = 6 then repC x c L b else c b
def code : F → Bool → Nat → Nat → List In
  | .nil, _, _, _ => []
  | .nd x ks r, m, b, e =>
    let one : Nat → List In := oneC x (fun b => code ks false b 0) (fun b => code ks true b (b + lenM ks true)) (lenM ks false)
    let L := lenOne x (lenM ks false) (lenM ks true)
    if m = true then (match r with
      | .nil => one b
      | _ => ⟨5, 0, (b + 1 : Nat), (b + L + 2 : Nat)⟩ :: (one (b + 1) ++ (⟨4, 0, e, 0⟩ :: code r true (b + L + 2) e)))
    else one b ++ code r false (b + L) 0
inductive Stp (m : List In) (w : List UInt8) : Nat × Nat → Nat × Nat → Prop
  | set {i p : Nat} {t : In} {b : UInt8} (h : m[i]? = some t) (ho : t.op = 1) (hb : w[p]? = some b) (hs : t.set.getLsbD b.toNat = true) : Stp m w (i, p) (i + 1, p + 1)
  | bol {i : Nat} {t : In} (h : m[i]? = some t) (ho : t.op = 2) : Stp m w (i, 0) (i + 1, 0)
  | eol {i : Nat} {t : In} (h : m[i]? = some t) (ho : t.op = 3) : Stp m w (i, w.length) (i + 1, w.length)
  | jmp {i p j : Nat} {t : In} (h : m[i]? = some t) (ho : t.op = 4) (hx : t.x = (j : Int)) : Stp m w (i, p) (j, p)
  | spx {i p j : Nat} {t : In} (h : m[i]? = some t) (ho : t.op = 5) (hx : t.x = (j : Int)) : Stp m w (i, p) (j, p)
  | spy {i p j : Nat} {t : In} (h : m[i]? = some t) (ho : t.op = 5) (hy : t.y = (j : Int)) : Stp m w (i, p) (j, p)
inductive RunN (m : List In) (w : List UInt8) : Nat → Nat × Nat → Nat × Nat → Prop
  | zero {c : Nat × Nat} : RunN m w 0 c c
  | step {n : Nat} {c c' c'' : Nat × Nat} (h : Stp m w c c') (hr : RunN m w n c' c'') : RunN m w (n + 1) c c''
def Run (m : List In) (w : List UInt8) (c c' : Nat × Nat) : Prop := ∃ n, RunN m w n c c'
variable {m : List In} {w : List UInt8}
def At (m : List In) (b : Nat) (c : List In) : Prop := ∀ i t, c[i]? = some t → m[b + i]? = some t
structure Means (m : List In) (w : List UInt8) (b e : Nat) (D : Nat → Nat → Prop) : Prop where
  le : b ≤ e
  run : ∀ p q, D p q → Run m w (b, p) (e, q)
  out : ∀ n p c q, RunN m w n (b, p) (c, q) → ¬ (b ≤ c ∧ c < e) → ∃ k q', k ≤ n ∧ D p q' ∧ RunN m w k (e, q') (c, q)
theorem rep_flds {x : Nd} (h : ndOk x = true) (h6 : x.op = 6) : 0 ≤ x.mn ∧ x.mn ≤ 255 ∧ (x.mx = -1 ∨ x.mn ≤ x.mx ∧ x.mx ≤ 255) := by
  simp only [ndOk, flds, Bool.and_eq_true] at h
  have h := h.1.2
  rw [if_pos h6] at h
  simpa using h
end Go.HL.Kl.Mc
namespace Go.HL.Kl.Mc
open Go Go.HL Go.HL.Kl
variable {m : List In} {w : List UInt8}
def Eps (m : List In) (n p i j : Nat) : Prop := ∃ t, m[i]? = some t ∧ ((t.op = 2 ∧ p = 0 ∧ j = i + 1) ∨ (t.op = 3 ∧ p = n ∧ j = i + 1) ∨ (t.op = 4 ∧ t.x = (j : Int)) ∨ (t.op = 5 ∧ (t.x = (j : Int) ∨ t.y = (j : Int))))
inductive EpsS (m : List In) (n p : Nat) : Nat → Nat → Prop
  | refl {i : Nat} : EpsS m n p i i
  | head {i j k : Nat} (h : Eps m n p i j) (hs : EpsS m n p j k) : EpsS m n p i k
def Eat (m : List In) (w : List UInt8) (i p : Nat) : Prop := ∃ t b, m[i]? = some t ∧ t.op = 1 ∧ w[p]? = some b ∧ t.set.getLsbD b.toNat = true
def Hit (m : List In) (w : List UInt8) (f p : Nat) : Prop := ∃ i t, Run m w (0, f) (i, p) ∧ m[i]? = some t ∧ t.op = 6
def InOk (E : Nat) (t : In) : Prop := (1 ≤ t.op ∧ t.op ≤ 6) ∧ (t.op = 1 ∨ t.set = 0) ∧ (0 ≤ t.x ∧ t.x ≤ (if t.op = 4 ∨ t.op = 5 then (E : Int) else 0)) ∧ (0 ≤ t.y ∧ t.y ≤ (if t.op = 5 then (E : Int) else 0))
instance (E : Nat) (t : In) : Decidable (InOk E t) := by unfold InOk; infer_instance
def MOk (m : List In) : Prop := 1 ≤ m.length ∧ m.length ≤ 65540 ∧ ∀ i t, m[i]? = some t → InOk (m.length - 1) t ∧ (t.op ≤ 3 → i + 1 < m.length)
def CodeOk (E : Nat) (c : List In) : Prop := ∀ t ∈ c, InOk E t ∧ t.op ≤ 5
def mach (f : F) : List In := code f false 0 0 ++ [⟨6, 0, 0, 0⟩]
end Go.HL.Kl.Mc
namespace Go.HL.Kl.Mc
open Go Go.HL Go.HL.Kl
structure IsS (l : List Bool) (N : Nat) (S : Nat → Prop) : Prop where
  len : l.length = N + 1
  get : ∀ p, p ≤ N → (l[p]? = some true ↔ S p)
def img (D : Nat → Nat → Prop) (S : Nat → Prop) (q : Nat) : Prop := ∃ p, S p ∧ D p q
def Inn (N : Nat) (D : Nat → Nat → Prop) : Prop := ∀ p q, p ≤ N → D p q → q ≤ N
def der1 (w : List UInt8) (x : Nd) (ks : F) (p q : Nat) : Prop := der w (.nd x ks .nil) false p q
def upTo (D : Nat → Nat → Prop) (S : Nat → Prop) (mn k q : Nat) : Prop := ∃ j, mn ≤ j ∧ j ≤ k ∧ img (pow D j) S q
section
variable {P : Program} {κ : Cx} {L : Loc} {H : Hp} {ty t t' : TypeId} {x y : Operand}
theorem fq_cls {w : World} {n e b e1 b1 : Nat} {k' : IntKind} {xs ys : Array Value} {l : List (Nat × Nat)} {c d : Kl.Cl} {r : Bool} [TU P e (.array 4 e1)] [TG P e false] [TI P e 4 b] [TU P e1 (.int k')] [TG P e1 true] [TI P e1 1 b1]
    (hx : xs.extract 1 5 = (Ec c).toArray) (hy : ys.extract 1 5 = (Ec d).toArray) (h : FQ P w (n + 1) xs ys l r) : FQ P w (n + 1) xs ys ((e, 1) :: l) (decide (c = d) && r) := by
  refine .cons (part_agg hx) (part_agg hy) ?_ h
  have := re_arr (P := P) (t := e) w n (j := .u64) (Ic c) (Ic d) (Ic_len c) (Ic_len d)
  rw [← Ec_ints, ← Ec_ints] at this
  rw [this]
  congr 1
  exact decide_eq_decide.2 Ic_inj
theorem nd_fq {a c i e b be : Nat} {k1 k2 ke : IntKind} [TU P a (.int k1)] [TG P a true] [TU P i (.int k2)] [TG P i true] [TU P c (.array 4 e)] [TG P c false] [TI P c 4 b] [TU P e (.int ke)] [TG P e true] [TI P e 1 be] (w : World) (p q : Nd) : FQ P w 9998 (En p).toArray (En q).toArray [(a, 0), (c, 1), (i, 5), (i, 6), (i, 7), (i, 8)] (decide (p = q)) := by
  have h : FQ P w 9998 (En p).toArray (En q).toArray [(a, 0), (c, 1), (i, 5), (i, 6), (i, 7), (i, 8)] _ :=
    .int (j := .i8) (p := p.op) (q := q.op) rfl rfl (fq_cls (c := p.set) (d := q.set) rfl rfl (.int (j := .i64) (p := p.n) (q := q.n) rfl rfl (.int (j := .i64) (p := p.mn) (q := q.mn) rfl rfl (.int (j := .i64) (p := p.mx) (q := q.mx) rfl rfl (.int (j := .i64) (p := p.kids) (q := q.kids) rfl rfl .nil)))))
  have e : (p.op == q.op && (decide (p.set = q.set) && (p.n == q.n && (p.mn == q.mn && (p.mx == q.mx && (p.kids == q.kids && true)))))) = decide (p = q) := by
    cases p; cases q
    simp only [Nd.mk.injEq, Bool.and_true]
    rw [Bool.eq_iff_iff]
    simp
  rw [← e]; exact h
theorem s_neq_nd {a c i e b be : Nat} {k1 k2 ke : IntKind} [EG P t] [TU P a (.int k1)] [TG P a true] [TU P i (.int k2)] [TG P i true] [TU P c (.array 4 e)] [TG P c false] [TI P c 4 b] [TU P e (.int ke)] [TG P e true] [TI P e 1 be] [Go.HL.TQ P t [(a, 0), (c, 1), (i, 5), (i, 6), (i, 7), (i, 8)]] {p q : Nd} (hx : ev L x = some (.agg (En p).toArray)) (hy : ev L y = some (.agg (En q).toArray)) : Step P κ (.binOp .neq t x y t') ty L H (.bool (!decide (p = q))) :=
  s_neq_st hx hy fun w => nd_fq w p q
end
end Go.HL.Kl.Mc
namespace Go.HL
open Go
theorem St.apart_M {α : Type} {E : α → List Value} {k : Nat} [he : Enc E k] {a : Option Addr} {c : Nat} {xs : List α} {w0 w : World} {M : List Nat} {S H : Hp} (st : St w0 w M H) (hin : HIn S H) (hr : Rd E w0 (.slice a xs.length c) xs) (ha : Apart M (.slice a xs.length c)) (hk : 0 < k) : Apart (keys S) (.slice a xs.length c) := by
  intro A n c' hv hn hm
  have ha' := ha A n c' hv hn
  cases hv
  obtain ⟨⟨b', o⟩, hmS, hb⟩ := List.mem_map.1 hm
  have hb : b' = A.block := hb
  subst hb
  rcases st.own _ _ (hin _ hmS) with h1 | h1
  · exact ha' h1
  have hl : 0 < xs.length := by omega
  obtain ⟨u, hu⟩ : ∃ u, (flat E xs)[0]? = some u := by
    have : 0 < (flat E xs).length := by rw [flat_len]; exact Nat.mul_pos hl hk
    exact ⟨_, List.getElem?_eq_getElem this⟩
  have h2 := hr.get 0 u hu
  have h3 : A.block < w0.heap.size := by
    rcases Nat.lt_or_ge A.block w0.heap.size with h' | h'
    · exact h'
    · simp [World.cell?, ea, sblk, oblk, Array.getElem?_eq_none h'] at h2
  omega
end Go.HL
namespace Go.HL.Kl.Mc
open Go Go.HL Go.HL.Kl
def LookB (T bx : Nat) (ra : Option Addr) (rc : Nat) (re : List Nd) (i : Nat) (ea : Option Addr) (ec : Nat) (en : List Bool) : Nat × Obj := (bx, .cells [.slice ra re.length rc, .int .i64 i, .slice ea en.length ec].toArray T (0, 0))
def NodeP (T bx : Nat) (ra : Option Addr) (rc : Nat) (re : List Nd) (r : Option (Nat × List Bool)) (v : Value) (S' : Hp) : Prop :=
  match r with
  | none => v = .bool false
  | some (i', en') => v = .bool true ∧ ∃ ea' ec' Se', S' = LookB T bx ra rc re i' ea' ec' en' :: Se' ∧ OwnS Ebo 1 4 (.slice ea' en'.length ec') en' Se'
def NodeC (P : Program) (fn T : Nat) (f : Nat) : Prop := ∀ (bx : Nat) (ra : Option Addr) (rc : Nat) (re : List Nd) (i wi g : Nat) (ea : Option Addr) (ec : Nat) (en : List Bool) (Se : Hp), (∀ x ∈ re, -128 ≤ x.op ∧ x.op < 128) → wi + f = 260 → i ≤ re.length → en.length ≤ 255 → g ≤ 64 → OwnS Ebo 1 4 (.slice ea en.length ec) en Se →
  Fn P fn [.pointer (some ⟨bx, 0, none⟩), .int .i64 wi, .int .i64 g] (fun w => Rd En w (.slice ra re.length rc) re ∧ Apart (keys (LookB T bx ra rc re i ea ec en :: Se)) (.slice ra re.length rc)) (LookB T bx ra rc re i ea ec en :: Se) (NodeP T bx ra rc re (shN re f i en g))
theorem hin_node {p q : Nat × Obj} {S : Hp} : HIn (p :: S) (p :: q :: S) := fun r hr => by
  rcases List.mem_cons.1 hr with rfl | h
  · exact List.mem_cons_self
  · exact List.mem_cons_of_mem _ (List.mem_cons_of_mem _ h)
theorem shN_end {re : List Nd} {f i g : Nat} {en : List Bool} (h : re.length ≤ i) : shN re f i en g = none := by
  cases f with
  | zero => rfl
  | succ f => simp only [shN]; rw [List.getElem?_eq_none h]
theorem shN_bad {re : List Nd} {f i g : Nat} {en : List Bool} {x : Nd} (hx : re[i]? = some x) (h : ndOk x = false) : shN re (f + 1) i en g = none := by
  simp only [shN, hx]; rw [if_neg (by rw [h]; decide)]
theorem shN_gate {re : List Nd} {f i g : Nat} {en : List Bool} {x : Nd} (hx : re[i]? = some x) (h : gate x en g = none) : shN re (f + 1) i en g = none := by
  simp only [shN, hx, h]; split <;> rfl
theorem shN_kids {re : List Nd} {f i g g1 : Nat} {en en1 : List Bool} {x : Nd} (hx : re[i]? = some x) (hg : gate x en g = some (en1, g1)) (h : kidsN (fun i en => shN re f i en g1) x.kids.toNat (i + 1) en1 = none) : shN re (f + 1) i en g = none := by
  simp only [shN, hx, hg, h]; split <;> rfl
theorem shN_some {re : List Nd} {f i g g1 i2 : Nat} {en en1 en2 : List Bool} {x : Nd} (hx : re[i]? = some x) (hok : ndOk x = true) (hg : gate x en g = some (en1, g1)) (h : kidsN (fun i en => shN re f i en g1) x.kids.toNat (i + 1) en1 = some (i2, en2)) :
    shN re (f + 1) i en g = some (i2, if x.op = 7 then en2.set (x.n.toNat - 1) true else en2) := by
  simp only [shN, hx, hg, h]; rw [if_pos hok]
theorem kidsN_snoc {step : Nat → List Bool → Option (Nat × List Bool)} : ∀ {k i : Nat} {en : List Bool} {i2 : Nat} {en2 : List Bool} {r : Option (Nat × List Bool)}, kidsN step k i en = some (i2, en2) → step i2 en2 = r → kidsN step (k + 1) i en = r
  | 0, i, en, i2, en2, r, h, hs => by
    simp only [kidsN, Option.some.injEq, Prod.mk.injEq] at h
    obtain ⟨rfl, rfl⟩ := h
    simp only [kidsN, hs]
    cases r <;> rfl
  | k + 1, i, en, i2, en2, r, h, hs => by
    simp only [kidsN] at h
    split at h
    · cases h
    · rename_i i' en' hst
      have := kidsN_snoc h hs
      rw [kidsN, hst]
      exact this
theorem kidsN_none {step : Nat → List Bool → Option (Nat × List Bool)} : ∀ {n k i : Nat} {en : List Bool}, kidsN step k i en = none → k ≤ n → kidsN step n i en = none
  | n, 0, i, en, h, _ => by simp [kidsN] at h
  | 0, k + 1, i, en, h, hk => by omega
  | n + 1, k + 1, i, en, h, hk => by
    simp only [kidsN] at h ⊢
    split at h
    · rfl
    · exact kidsN_none h (by omega)
theorem gate_len {x : Nd} {en en1 : List Bool} {g g1 : Nat} (h : gate x en g = some (en1, g1)) (he : en.length ≤ 255) (hg : g ≤ 64) : en.length ≤ en1.length ∧ en1.length ≤ 255 ∧ g1 ≤ 64 ∧ (x.op = 7 → x.n = en.length + 1 ∧ en1.length = en.length + 1) := by
  unfold gate at h
  split at h
  · split at h
    · cases h; exact ⟨Nat.le_refl _, he, hg, fun h7 => by omega⟩
    · cases h
  · split at h
    · split at h
      · rename_i h8 h7 hh
        cases h
        simp only [List.length_append, List.length_singleton]
        exact ⟨by omega, by omega, by omega, fun _ => ⟨hh.1, trivial⟩⟩
      · cases h
    · cases h; exact ⟨Nat.le_refl _, he, hg, fun h7 => absurd h7 ‹_›⟩
theorem kidsN_len {step : Nat → List Bool → Option (Nat × List Bool)} (hs : ∀ i en i' en', en.length ≤ 255 → step i en = some (i', en') → en.length ≤ en'.length ∧ en'.length ≤ 255) : ∀ {k i : Nat} {en : List Bool} {i2 : Nat} {en2 : List Bool}, en.length ≤ 255 → kidsN step k i en = some (i2, en2) → en.length ≤ en2.length ∧ en2.length ≤ 255
  | 0, i, en, i2, en2, he, h => by
    simp only [kidsN, Option.some.injEq, Prod.mk.injEq] at h
    obtain ⟨_, rfl⟩ := h
    exact ⟨Nat.le_refl _, he⟩
  | k + 1, i, en, i2, en2, he, h => by
    simp only [kidsN] at h
    split at h
    · cases h
    · rename_i i' en' hst
      have h1 := hs _ _ _ _ he hst
      have h2 := kidsN_len hs h1.2 h
      omega
theorem shN_len {re : List Nd} : ∀ {f i g : Nat} {en : List Bool} {i' : Nat} {en' : List Bool}, en.length ≤ 255 → g ≤ 64 → shN re f i en g = some (i', en') → en.length ≤ en'.length ∧ en'.length ≤ 255
  | 0, i, g, en, i', en', _, _, h => by cases h
  | f + 1, i, g, en, i', en', he, hg, h => by
    simp only [shN] at h
    split at h
    · cases h
    · split at h
      · split at h
        · cases h
        · rename_i en1 g1 hgt
          split at h
          · cases h
          · rename_i i2 en2 hk
            simp only [Option.some.injEq, Prod.mk.injEq] at h
            obtain ⟨-, rfl⟩ := h
            obtain ⟨h1, h2, h3, _⟩ := gate_len hgt he hg
            have h4 := kidsN_len (fun i en i' en' he h => shN_len he h3 h) h2 hk
            split
            · simp only [List.length_set]; omega
            · omega
      · cases h
theorem shN_le {re : List Nd} {f i g : Nat} {en : List Bool} {i' : Nat} {en' : List Bool} (h : shN re f i en g = some (i', en')) : i' ≤ re.length := by
  obtain ⟨x, ks, ht⟩ := shN_tree _ _ _ _ _ _ h
  exact ht.le
theorem shN_lt {re : List Nd} {f i g : Nat} {en : List Bool} {i' : Nat} {en' : List Bool} (h : shN re f i en g = some (i', en')) : i < i' := by
  obtain ⟨x, ks, ht⟩ := shN_tree _ _ _ _ _ _ h
  have := ht.len
  omega
theorem get_false {en : List Bool} {j : Nat} (h : ¬ en[j]? = some true) (hj : j < en.length) : en[j]? = some false := by
  rw [List.getElem?_eq_getElem hj] at h ⊢
  cases hb : en[j]
  · rfl
  · rw [hb] at h; exact absurd rfl h
theorem gate_other {x : Nd} {en : List Bool} {g : Nat} (h8 : ¬ x.op = 8) (h7 : ¬ x.op = 7) : gate x en g = some (en, g) := by rw [gate, if_neg h8, if_neg h7]
theorem gate_ref {x : Nd} {en : List Bool} {g : Nat} (h8 : x.op = 8) (h1 : 1 ≤ x.n) (h2 : x.n ≤ en.length) (h3 : en[x.n.toNat - 1]? = some true) : gate x en g = some (en, g) := by rw [gate, if_pos h8, if_pos ⟨h1, h2, h3⟩]
theorem gate_no8 {x : Nd} {en : List Bool} {g : Nat} (h8 : x.op = 8) (h : ¬ (1 ≤ x.n ∧ x.n ≤ en.length ∧ en[x.n.toNat - 1]? = some true)) : gate x en g = none := by rw [gate, if_pos h8, if_neg h]
theorem gate_grp {x : Nd} {en : List Bool} {g : Nat} (h7 : x.op = 7) (h : x.n = en.length + 1 ∧ x.n ≤ 255 ∧ g < 64) : gate x en g = some (en ++ [false], g + 1) := by rw [gate, if_neg (by omega), if_pos h7, if_pos h]
theorem gate_no7 {x : Nd} {en : List Bool} {g : Nat} (h7 : x.op = 7) (h : ¬ (x.n = en.length + 1 ∧ x.n ≤ 255 ∧ g < 64)) : gate x en g = none := by rw [gate, if_neg (by omega), if_pos h7, if_neg h]
section
variable {P : Program} {κ : Cx} {L : HL.Loc} {H : Hp} {ty t t' : TypeId} {x : Operand}
end
theorem nd_set {x : Nd} : ∀ (j : Nat) u, (Ec x.set)[j]? = some u → (En x)[1 + j]? = some u := by
  intro j u h
  rw [show 1 + j = j + 1 by omega]
  simp only [En, List.getElem?_cons_succ]
  rw [List.getElem?_append_left (List.getElem?_eq_some_iff.1 h).1]; exact h
theorem F.num_le : ∀ f : F, f.num ≤ f.size
  | .nil => Nat.le_refl _
  | .nd x ks r => by have := F.num_le r; simp only [F.num, F.size]; omega
structure Part (re : List Nd) (f : F) (i i' : Nat) : Prop where
  wf : f.wf
  flat : re.drop i = f.flat ++ re.drop i'
  len : i' = i + f.size
  le : i' ≤ re.length
theorem Part.head {re : List Nd} {x : Nd} {ks r : F} {i i' : Nat} (h : Part re (.nd x ks r) i i') : re[i]? = some x ∧ Part re ks (i + 1) (i + 1 + ks.size) ∧ Part re r (i + 1 + ks.size) i' := by
  have hl := h.len
  have hle := h.le
  simp only [F.size] at hl
  have hf := h.flat
  simp only [F.flat, List.cons_append, List.append_assoc] at hf
  have h0 : re[i]? = some x := by
    have := congrArg (fun l => l[0]?) hf
    simpa using this
  have h1 : re.drop (i + 1) = ks.flat ++ (r.flat ++ re.drop i') := by
    have := congrArg (List.drop 1) hf
    rw [List.drop_drop] at this
    simpa using this
  have h2 : re.drop (i + 1 + ks.size) = r.flat ++ re.drop i' := by
    have := congrArg (List.drop ks.size) h1
    rw [List.drop_drop, ← F.flat_size, List.drop_left] at this
    rw [← F.flat_size]; exact this
  exact ⟨h0, ⟨h.wf.2.2.1, by rw [h2]; exact h1, rfl, by omega⟩, ⟨h.wf.2.2.2, h2, by omega, hle⟩⟩
theorem Part.one {re : List Nd} {x : Nd} {ks r : F} {i i' : Nat} (h : Part re (.nd x ks r) i i') : Part re (.nd x ks .nil) i (i + 1 + ks.size) := by
  obtain ⟨h0, h1, h2⟩ := h.head
  have hlt : i < re.length := (List.getElem?_eq_some_iff.1 h0).1
  refine ⟨⟨h.wf.1, h.wf.2.1, h.wf.2.2.1, trivial⟩, ?_, by simp [F.size]; omega, h1.le⟩
  rw [List.drop_eq_getElem_cons hlt, h1.flat]
  rw [List.getElem?_eq_getElem hlt] at h0
  simp at h0
  simp [F.flat, h0]
theorem TreeAt.part {re : List Nd} {d i i' : Nat} {x : Nd} {ks : F} (h : TreeAt re d i i' x ks) : Part re (.nd x ks .nil) i i' :=
  ⟨h.wf, by rw [h.flat]; simp [F.flat], by rw [h.len]; simp [F.size]; omega, h.le⟩
def WeighC (P : Program) (fn : Nat) (x : Nd) (ks : F) : Prop := ∀ (ra : Option Addr) (rc : Nat) (re : List Nd) (i i' : Nat), (∀ x ∈ re, -128 ≤ x.op ∧ x.op < 128) → Part re (.nd x ks .nil) i i' →
  Fn P fn [.slice ra re.length rc, .int .i64 i] (fun w => Rd En w (.slice ra re.length rc) re) [] (fun v _ => v = .tuple #[.int .i64 (cut (F.nd x ks .nil).weight), .int .i64 i'])
theorem cut_le (n : Nat) : cut n ≤ 16385 := by unfold cut; omega
theorem weight_one (x : Nd) (ks : F) : (F.nd x ks .nil).weight = 1 + times x * ks.weight := by simp [F.weight]
theorem mul_le {a b : Nat} (ha : a ≤ 16385) (hb : b ≤ 256) : a * b ≤ 4194560 := Nat.mul_le_mul ha hb
theorem mul_leZ {a b : Nat} (ha : a ≤ 16385) (hb : b ≤ 256) : (a : Int) * b ≤ 4194560 := by
  rw [← Int.natCast_mul]; have := mul_le ha hb; omega
theorem mul_0Z (a b : Nat) : 0 ≤ (a : Int) * b := by
  rw [← Int.natCast_mul]; omega
theorem cut_fin {t a : Nat} (ht : 1 ≤ t) : min ((cut a : Int) * t + 1) 16385 = (cut (1 + t * a) : Nat) := by
  rw [← cut_mul ht]
  have : (cut a : Int) * t + 1 = ((1 + t * cut a : Nat) : Int) := by rw [Nat.mul_comm]; push_cast; omega
  rw [this]; unfold cut; omega
theorem flds_iff {x : Nd} : flds x = true ↔ (1 ≤ x.op ∧ x.op ≤ 8) ∧ (x.op = 1 ∨ x.set = 0) ∧ (x.op = 7 ∨ x.op = 8 ∨ x.n = 0) ∧ (x.op = 6 → 0 ≤ x.mn ∧ x.mn ≤ 255 ∧ (x.mx = -1 ∨ x.mn ≤ x.mx ∧ x.mx ≤ 255)) ∧ (x.op ≠ 6 → x.mn = 0 ∧ x.mx = 0) := by
  simp only [flds, Bool.and_eq_true, Bool.or_eq_true, decide_eq_true_eq]
  by_cases h6 : x.op = 6
  · rw [if_pos h6]
    simp only [decide_eq_true_eq]
    constructor
    · rintro ⟨⟨⟨a, b⟩, c⟩, d⟩; exact ⟨a, b, by omega, fun _ => d, fun h => absurd h6 h⟩
    · rintro ⟨a, b, c, d, _⟩; exact ⟨⟨⟨a, b⟩, by omega⟩, d h6⟩
  · rw [if_neg h6]
    simp only [decide_eq_true_eq]
    constructor
    · rintro ⟨⟨⟨a, b⟩, c⟩, d⟩; exact ⟨a, b, by omega, fun h => absurd h h6, fun _ => d⟩
    · rintro ⟨a, b, c, _, d⟩; exact ⟨⟨⟨a, b⟩, by omega⟩, d h6⟩
end Go.HL.Kl.Mc
namespace Go.HL.Sts
open Go Go.HL Go.HL.Kl Go.HL.Kl.Mc
structure Pt where
  n00 : Bool
  n01 : Bool
  n10 : Bool
  n11 : Bool
  f0 : Sp
  f1 : Sp
  l0 : Sp
  l1 : Sp
def Epn (p : Pt) : List Value := [.bool p.n00, .bool p.n01, .bool p.n10, .bool p.n11]
def Epl (p : Pt) : List Value := E3 p.f0 ++ (E3 p.f1 ++ (E3 p.l0 ++ E3 p.l1))
def Ep4 (p : Pt) : List Value := Epn p ++ Epl p
theorem Es_len (s : Sp) : (E3 s).length = 3 := rfl
instance : Enc Ep4 16 := ⟨fun p => rfl, fun p v hv => by
  simp only [Ep4, Epn, Epl, List.mem_cons, List.mem_append, List.not_mem_nil, or_false] at hv
  rcases hv with (rfl | rfl | rfl | rfl) | hv | hv | hv | hv
  · rfl
  · rfl
  · rfl
  · rfl
  all_goals exact Es_one _ v hv⟩
def zeroP : Pt := ⟨false, false, false, false, 0, 0, 0, 0⟩
def nothP : Pt := ⟨true, true, true, true, 0, 0, 0, 0⟩
structure Plc where
  sets : List Kl.Cl
  fol : List Sp
def joinF (fol : List Sp) (a b : Sp) : List Sp := fol.mapIdx fun p s => if a.getLsbD p then s ||| b else s
def Plc.join (x : Plc) (a b : Sp) : Plc := { x with fol := joinF x.fol a b }
def orIf (s : Sp) (b : Bool) (t : Sp) : Sp := if b then s ||| t else s
def catP (a b : Pt) : Pt := ⟨a.n00 && b.n00, a.n01 && b.n01, a.n10 && b.n10, a.n11 && b.n11, orIf a.f0 a.n00 b.f0, orIf a.f1 a.n10 b.f1, orIf b.l0 b.n00 a.l0, orIf b.l1 b.n01 a.l1⟩
def altP (a b : Pt) : Pt := ⟨a.n00 || b.n00, a.n01 || b.n01, a.n10 || b.n10, a.n11 || b.n11, a.f0 ||| b.f0, a.f1 ||| b.f1, a.l0 ||| b.l0, a.l1 ||| b.l1⟩
abbrev Mk := Plc → Pt × Plc
def catM (a : Pt) (m : Mk) : Mk := fun x => (catP a (m x).1, (m x).2.join a.l0 (m x).1.f0)
def catL (m : Mk) (b : Pt) : Mk := fun x => (catP (m x).1 b, (m x).2.join (m x).1.l0 b.f0)
def iterM (f : Pt → Mk) : Nat → Pt → Mk
  | 0, c, x => (c, x)
  | n + 1, c, x => iterM f n (f c x).1 (f c x).2
def repM (k : Mk) (mn mx : Int) : Mk := fun x =>
  let c := iterM (fun c => catM c k) mn.toNat nothP x
  if mx < 0 then
    let a := k c.2
    let x2 := a.2.join a.1.l0 a.1.f0
    (catP c.1 (altP nothP a.1), x2.join c.1.l0 (altP nothP a.1).f0)
  else
    let m := iterM (fun more y => (altP nothP (catL k more y).1, (catL k more y).2)) (mx - mn).toNat nothP c.2
    (catP c.1 m.1, m.2.join c.1.l0 m.1.f0)
def setM (s : Kl.Cl) : Mk := fun x => (⟨false, false, false, false, pit x.sets.length, pit x.sets.length, pit x.sets.length, pit x.sets.length⟩, ⟨x.sets ++ [s], x.fol ++ [0]⟩)
def oneM (n : Nd) (K : Bool → Pt → Mk) : Mk := fun x =>
  if n.op = 1 then setM n.set x
  else if n.op = 2 then ({ zeroP with n10 := true, n11 := true }, x)
  else if n.op = 3 then ({ zeroP with n01 := true, n11 := true }, x)
  else if n.op = 4 then K false nothP x
  else if n.op = 5 then K true zeroP x
  else if n.op = 6 then repM (K true zeroP) n.mn n.mx x
  else if n.op = 7 then K true zeroP x
  else (zeroP, x)
def kidsM : F → Bool → Pt → Mk
  | .nil, _, c => fun x => (c, x)
  | .nd n ks r, b, c => fun x =>
    let p := oneM n (kidsM ks) x
    if b then kidsM r b (altP c p.1) p.2 else kidsM r b (catP c p.1) (p.2.join c.l0 p.1.f0)
def partM (n : Nd) (ks : F) : Mk := oneM n (kidsM ks)
theorem or_zero (s : Sp) : (0 : Sp) ||| s = s := by simp
theorem alt_zero (p : Pt) : altP zeroP p = p := by
  cases p; simp [altP, zeroP]
theorem kids_one (n : Nd) (ks : F) : kidsM (.nd n ks .nil) true zeroP = partM n ks := by
  funext x
  simp only [kidsM, if_true, alt_zero, partM]
/-! how many places there are -/
def reps (n : Nd) : Nat := if n.mx < 0 then n.mn.toNat + 1 else n.mx.toNat
def cntM : F → Nat
  | .nil => 0
  | .nd n ks r => (if n.op = 1 then 1 else if n.op = 6 then reps n * cntM ks else if n.op = 4 ∨ n.op = 5 ∨ n.op = 7 then cntM ks else 0) + cntM r
def cnt1 (n : Nd) (ks : F) : Nat := if n.op = 1 then 1 else if n.op = 6 then reps n * cntM ks else if n.op = 4 ∨ n.op = 5 ∨ n.op = 7 then cntM ks else 0
def Adds (m : Mk) (n : Nat) : Prop := ∀ x, x.fol.length = x.sets.length → (m x).2.sets.length = x.sets.length + n ∧ (m x).2.fol.length = (m x).2.sets.length
theorem joinF_len (l : List Sp) (a b : Sp) : (joinF l a b).length = l.length := by simp [joinF]
theorem Adds.cat {m : Mk} {n : Nat} (h : Adds m n) (a : Pt) : Adds (catM a m) n := fun x hx => ⟨(h x hx).1, by simp only [catM, Plc.join, joinF_len]; exact (h x hx).2⟩
theorem Adds.catL {m : Mk} {n : Nat} (h : Adds m n) (a : Pt) : Adds (catL m a) n := fun x hx => ⟨(h x hx).1, by simp only [Sts.catL, Plc.join, joinF_len]; exact (h x hx).2⟩
theorem Adds.iter {f : Pt → Mk} {n : Nat} (h : ∀ c, Adds (f c) n) : ∀ k c, Adds (iterM f k c) (k * n)
  | 0, c => fun x hx => by simp [iterM, hx]
  | k + 1, c => fun x hx => by
    have h1 := h c x hx
    have h2 := Adds.iter h k (f c x).1 (f c x).2 h1.2
    simp only [iterM]
    refine ⟨?_, h2.2⟩
    rw [h2.1, h1.1, Nat.succ_mul, Nat.add_assoc, Nat.add_comm n]
theorem Adds.rep {m : Mk} {n : Nat} (h : Adds m n) {nd : Nd} (h0 : 0 ≤ nd.mn) (h1 : nd.mx < 0 ∨ nd.mn ≤ nd.mx) : Adds (repM m nd.mn nd.mx) (reps nd * n) := fun x hx => by
  have hc := Adds.iter (f := fun c => catM c m) (fun c => h.cat c) nd.mn.toNat nothP x hx
  unfold repM reps
  by_cases hm : nd.mx < 0
  · have ha := h _ hc.2
    simp only [hm, if_true, Plc.join, joinF_len]
    refine ⟨?_, ha.2⟩
    rw [ha.1, hc.1, Nat.succ_mul]; omega
  · have hb := Adds.iter (f := fun more y => (altP nothP (Sts.catL m more y).1, (Sts.catL m more y).2)) (fun c => fun y hy => h.catL c y hy) (nd.mx - nd.mn).toNat nothP _ hc.2
    simp only [hm, if_false, Plc.join, joinF_len]
    refine ⟨?_, hb.2⟩
    rw [hb.1, hc.1, Nat.add_assoc, ← Nat.add_mul]
    congr 2; omega
theorem flds_rep {n : Nd} (h : ndOk n = true) (h6 : n.op = 6) : 0 ≤ n.mn ∧ (n.mx < 0 ∨ n.mn ≤ n.mx) := by
  simp only [ndOk, Bool.and_eq_true] at h
  have := (flds_iff.1 h.1).2.2.2.1 h6
  omega
theorem Adds.one {n : Nd} {ks : F} (hw : ndOk n = true) (h : ∀ b c, Adds (kidsM ks b c) (cntM ks)) : Adds (partM n ks) (cnt1 n ks) := fun x hx => by
  unfold partM oneM cnt1
  by_cases h1 : n.op = 1
  · simp [h1, setM, hx]
  by_cases h2 : n.op = 2
  · simp [h2, hx]
  by_cases h3 : n.op = 3
  · simp [h3, hx]
  by_cases h4 : n.op = 4
  · simpa [h4] using h false nothP x hx
  by_cases h5 : n.op = 5
  · simpa [h5] using h true zeroP x hx
  by_cases h6 : n.op = 6
  · obtain ⟨a, b⟩ := flds_rep hw h6
    simpa [h6] using (h true zeroP).rep a b x hx
  by_cases h7 : n.op = 7
  · simpa [h7] using h true zeroP x hx
  simp [h1, h2, h3, h4, h5, h6, h7, hx]
theorem Adds.kids : ∀ (f : F), f.wf → ∀ b c, Adds (kidsM f b c) (cntM f)
  | .nil, _, b, c => fun x hx => by simp [kidsM, cntM, hx]
  | .nd n ks r, hw, b, c => fun x hx => by
    have h1 := Adds.one hw.1 (Adds.kids ks hw.2.2.1) x hx
    have e : cntM (.nd n ks r) = cnt1 n ks + cntM r := rfl
    rw [e]
    simp only [kidsM]
    cases b with
    | true =>
      have h2 := Adds.kids r hw.2.2.2 true (altP c (partM n ks x).1) _ h1.2
      simp only [if_true]
      exact ⟨by rw [show (kidsM r true (altP c (oneM n (kidsM ks) x).1) (oneM n (kidsM ks) x).2).2.sets.length = _ from h2.1, h1.1]; omega, h2.2⟩
    | false =>
      have h2 := Adds.kids r hw.2.2.2 false (catP c (partM n ks x).1) ((partM n ks x).2.join c.l0 (partM n ks x).1.f0) (by simp only [Plc.join, joinF_len]; exact h1.2)
      simp only [Bool.false_eq_true, if_false]
      exact ⟨by rw [show (kidsM r false (catP c (oneM n (kidsM ks) x).1) ((oneM n (kidsM ks) x).2.join c.l0 (oneM n (kidsM ks) x).1.f0)).2.sets.length = _ from h2.1, show ((partM n ks x).2.join c.l0 (partM n ks x).1.f0).sets.length = _ from h1.1]; omega, h2.2⟩
theorem part_adds {n : Nd} {ks : F} (hw : (F.nd n ks .nil).wf) : Adds (partM n ks) (cnt1 n ks) := Adds.one hw.1 (Adds.kids ks hw.2.2.1)
theorem cnt_le : ∀ (f : F), f.wf → cntM f ≤ f.weight
  | .nil, _ => Nat.le_refl _
  | .nd n ks r, hw => by
    have h1 := cnt_le ks hw.2.2.1
    have h2 := cnt_le r hw.2.2.2
    have e : cntM (.nd n ks r) = cnt1 n ks + cntM r := rfl
    have e2 : (F.nd n ks r).weight = 1 + times n * ks.weight + r.weight := rfl
    rw [e, e2]
    have h3 : cnt1 n ks ≤ 1 + times n * ks.weight := by
      unfold cnt1
      have hmul : ∀ k, k ≤ times n → k * cntM ks ≤ times n * ks.weight := fun k hk => Nat.mul_le_mul hk h1
      split
      · omega
      · split
        · rename_i h6
          have := hmul (reps n) (by unfold reps times; split <;> simp_all <;> omega)
          omega
        · split
          · have := hmul 1 (by unfold times; split <;> (try split) <;> omega)
            omega
          · omega
    omega
def rdTo (sets : List Kl.Cl) (a : Kl.Cl) : Nat → Sp
  | 0 => 0
  | p + 1 => if (sets[p]?.getD 0) &&& a = 0 then rdTo sets a p else rdTo sets a p ||| pit p
def rdsOf (sets : List Kl.Cl) (atoms : List Kl.Cl) : List Sp := atoms.map fun a => rdTo sets a sets.length
def folTo (fol : List Sp) (s : Sp) : Nat → Sp
  | 0 => 0
  | p + 1 => if s.getLsbD p then folTo fol s p ||| (fol[p]?.getD 0) else folTo fol s p
def addN {α : Type} [DecidableEq α] (l : List α) (s : α) : List α := if s ∈ l then l else l ++ [s]
theorem idx_add {α : Type} [DecidableEq α] (l : List α) (s : α) : (addN l s)[l.idxOf s]? = some s := by
  unfold addN
  split
  · rename_i h
    rw [List.getElem?_eq_getElem (List.idxOf_lt_length_iff.2 h), List.getElem_idxOf]
  · rename_i h
    rw [List.idxOf_eq_length h]; simp
theorem add_pre {α : Type} [DecidableEq α] (l : List α) (s : α) : ∃ t, addN l s = l ++ t := by
  unfold addN
  split
  · exact ⟨[], by simp⟩
  · exact ⟨[s], rfl⟩
theorem add_nodup {α : Type} [DecidableEq α] {l : List α} (h : l.Nodup) (s : α) : (addN l s).Nodup := by
  unfold addN
  split
  · exact h
  · rename_i hs
    rw [List.nodup_append]
    exact ⟨h, by simp, fun a ha b hb => by simp at hb; subst hb; rintro rfl; exact hs ha⟩
theorem add_mem {α : Type} [DecidableEq α] {l : List α} {s x : α} : x ∈ addN l s ↔ x ∈ l ∨ x = s := by
  unfold addN
  split
  · rename_i h
    constructor
    · exact .inl
    · rintro (h1 | rfl)
      · exact h1
      · exact h
  · simp
def rowT : List Sp → Sp → List Sp → List Nat × List Sp
  | [], _, met => ([], met)
  | r :: rs, fr, met => ((met.idxOf (fr &&& r) + 1) :: (rowT rs fr (addN met (fr &&& r))).1, (rowT rs fr (addN met (fr &&& r))).2)
theorem rowT_snoc (fr : Sp) (r : Sp) : ∀ (rs : List Sp) (met : List Sp), rowT (rs ++ [r]) fr met = ((rowT rs fr met).1 ++ [(rowT rs fr met).2.idxOf (fr &&& r) + 1], addN (rowT rs fr met).2 (fr &&& r))
  | [], met => rfl
  | x :: rs, met => by
    simp only [List.cons_append, rowT, rowT_snoc fr r rs]
theorem rowT_len (fr : Sp) : ∀ (rs met : List Sp), (rowT rs fr met).1.length = rs.length
  | [], met => rfl
  | r :: rs, met => by simp [rowT, rowT_len fr rs]
structure Wd where
  met : List Sp
  next : List (List Nat)
  ends : List Bool
def Wd.row (w : Wd) (rds : List Sp) (fr : Sp) (e : Bool) : Wd := ⟨(rowT rds fr w.met).2, w.next ++ [(rowT rds fr w.met).1], w.ends ++ [e]⟩
def wdStep (fol : List Sp) (rds : List Sp) (l1 : Sp) (q : Nat) (w : Wd) : Wd :=
  w.row rds (folTo fol (w.met[q]?.getD 0) fol.length) (decide ((w.met[q]?.getD 0) &&& l1 ≠ 0))
def wdRun (fol : List Sp) (rds : List Sp) (l1 : Sp) : Nat → Nat → Wd → Wd
  | 0, _, w => w
  | f + 1, q, w => if q < w.met.length then wdRun fol rds l1 f (q + 1) (wdStep fol rds l1 q w) else w
def wdInit (rds : List Sp) (root : Pt) : Wd := Wd.row ⟨[], [], []⟩ rds root.f1 root.n11
def full : Nat := 16777217
def wideM (x : Plc) (root : Pt) (atoms : List Kl.Cl) : Wd := wdRun x.fol (rdsOf x.sets atoms) root.l1 full 0 (wdInit (rdsOf x.sets atoms) root)
/-! there are no more sets than numbers of 24 bits -/
theorem nodup_lt {l : List Nat} (hn : l.Nodup) {n : Nat} (h : ∀ x ∈ l, x < n) : l.length ≤ n := by
  have : l ⊆ List.range n := fun x hx => List.mem_range.2 (h x hx)
  have := hn.length_le_of_subset this
  simpa using this
theorem sets_len {l : List Sp} (hn : l.Nodup) : l.length ≤ 16777216 := by
  have h1 : (l.map BitVec.toNat).Nodup := by
    rw [List.nodup_iff_pairwise_ne, List.pairwise_map]
    exact hn.imp fun h he => h (BitVec.eq_of_toNat_eq he)
  have := nodup_lt h1 (n := 16777216) (fun x hx => by
    obtain ⟨s, _, rfl⟩ := List.mem_map.1 hx
    exact s.isLt)
  simpa using this
theorem wdRun_step {fol rds : List Sp} {l1 : Sp} {f q : Nat} {w : Wd} (hf : q + f = full) (hn : w.met.Nodup) (h : q < w.met.length) : wdRun fol rds l1 f q w = wdRun fol rds l1 (f - 1) (q + 1) (wdStep fol rds l1 q w) ∧ (q + 1) + (f - 1) = full := by
  have := sets_len hn
  obtain ⟨g, rfl⟩ : ∃ g, f = g + 1 := ⟨f - 1, by unfold full at hf; omega⟩
  exact ⟨by simp [wdRun, h], by omega⟩
theorem wdRun_end {fol rds : List Sp} {l1 : Sp} {f q : Nat} {w : Wd} (h : ¬ q < w.met.length) : wdRun fol rds l1 f q w = w := by
  cases f with
  | zero => rfl
  | succ f => simp [wdRun, h]
/-! the parts -/
def idx {α : Type} [DecidableEq α] : List α → α → Nat
  | [], _ => 0
  | x :: l, s => if x = s then 0 else idx l s + 1
def idsT : List (Nat × Nat) → List (Nat × Nat) → List Nat × List (Nat × Nat)
  | [], seen => ([], seen)
  | p :: ps, seen => (idx seen p :: (idsT ps (addN seen p)).1, (idsT ps (addN seen p)).2)
theorem idsT_snoc (p : Nat × Nat) : ∀ (ps seen : List (Nat × Nat)), idsT (ps ++ [p]) seen = ((idsT ps seen).1 ++ [idx (idsT ps seen).2 p], addN (idsT ps seen).2 p)
  | [], seen => rfl
  | x :: ps, seen => by simp only [List.cons_append, idsT, idsT_snoc p ps]
theorem idsT_len : ∀ (ps seen : List (Nat × Nat)), (idsT ps seen).1.length = ps.length
  | [], _ => rfl
  | p :: ps, seen => by simp [idsT, idsT_len ps]
def col (next : List (List Nat)) (part : List Nat) (k : Nat) : List Nat := next.map fun row => part[row[k]?.getD 0]?.getD 0
def roundT (next : List (List Nat)) (part : List Nat) : Nat → List Nat × List (Nat × Nat)
  | 0 => (part, [])
  | k + 1 => idsT ((roundT next part k).1.zip (col next part k)) []
def partsT (next : List (List Nat)) (K : Nat) : Nat → Nat → List Nat → List Nat
  | 0, _, part => part
  | f + 1, many, part => if (roundT next part K).2.length = many then part else partsT next K f (roundT next part K).2.length (roundT next part K).1
def part0 (ends : List Bool) : List Nat := ends.map fun e => if e then 1 else 0
def partsM (next : List (List Nat)) (ends : List Bool) (K : Nat) : List Nat := partsT next K (ends.length + 2) 0 (part0 ends)
/-! the states that go on to an end -/
inductive Live (next : List (List Nat)) (ends : List Bool) : Nat → Prop
  | ends {q : Nat} (h : ends[q]? = some true) : Live next ends q
  | step {q to : Nat} {row : List Nat} (hr : next[q]? = some row) (hm : to ∈ row) (h : Live next ends to) : Live next ends q
/-! the least machine's rows -/
structure Lm where
  met : List Nat
  next : List (List Int)
  ends : List Bool
def toT (part : List Nat) (lv : List Bool) (met : List Nat) (to : Nat) : Int × List Nat :=
  if lv[to]?.getD false = false then (-1, met)
  else ((idx (met.map fun m => part[m]?.getD 0) (part[to]?.getD 0) : Nat), if part[to]?.getD 0 ∈ met.map (fun m => part[m]?.getD 0) then met else met ++ [to])
def lrowT (part : List Nat) (lv : List Bool) : List Nat → List Nat → List Int × List Nat
  | [], met => ([], met)
  | to :: r, met => ((toT part lv met to).1 :: (lrowT part lv r (toT part lv met to).2).1, (lrowT part lv r (toT part lv met to).2).2)
theorem lrowT_snoc (part : List Nat) (lv : List Bool) (to : Nat) : ∀ (r met : List Nat), lrowT part lv (r ++ [to]) met = ((lrowT part lv r met).1 ++ [(toT part lv (lrowT part lv r met).2 to).1], (toT part lv (lrowT part lv r met).2 to).2)
  | [], met => rfl
  | x :: r, met => by simp only [List.cons_append, lrowT, lrowT_snoc part lv to r]
theorem lrowT_len (part : List Nat) (lv : List Bool) : ∀ (r met : List Nat), (lrowT part lv r met).1.length = r.length
  | [], _ => rfl
  | x :: r, met => by simp [lrowT, lrowT_len part lv r]
def lmStep (w : Wd) (part : List Nat) (lv : List Bool) (i : Nat) (m : Lm) : Lm :=
  let q := m.met[i]?.getD 0
  let r := lrowT part lv (w.next[q]?.getD []) m.met
  ⟨r.2, m.next ++ [r.1], m.ends ++ [w.ends[q]?.getD false]⟩
def lmRun (w : Wd) (part : List Nat) (lv : List Bool) : Nat → Nat → Lm → Option Lm
  | 0, _, _ => none
  | f + 1, i, m => if i < m.met.length then (if 256 < m.met.length then none else lmRun w part lv f (i + 1) (lmStep w part lv i m)) else some m
def lmM (w : Wd) (part : List Nat) (lv : List Bool) : Option Lm := lmRun w part lv 258 0 ⟨[0], [], []⟩
structure Df where
  next : List (List Int)
  ends : List Bool
  atoms : List Kl.Cl
  deriving DecidableEq
def setsOf (re : List Nd) : List Kl.Cl := (re.filter fun n => decide (n.op = 1)).map Nd.set
def okB (re : List Nd) (sh rf : Bool) (wt : Nat) : Int := if sh = false then 49 else if rf then 44 else if 20 < wt then 48 else 0
def dfaM (atoms : List Kl.Cl) (n : Nd) (ks : F) (lv : List Bool) : Option Df :=
  let r := partM n ks ⟨[], []⟩
  let w := wideM r.2 r.1 atoms
  (lmM w (partsM w.next w.ends atoms.length) lv).map fun m => ⟨m.next, m.ends, atoms⟩
end Go.HL.Sts
namespace Go.HL.Kl
open Go Go.HL
theorem v_shr (w : BitVec 64) {n : Int} (k : Nat) (h : min n.toNat IntKind.u64.bits = k) : Value.int .u64 ((w.toNat : Int).fdiv (2 ^ (min n.toNat IntKind.u64.bits))) = Ew (w >>> k) := by
  rw [h]
  have h2 : ((2 : Int) ^ k) = ((2 ^ k : Nat) : Int) := by simp
  rw [h2, Int.fdiv_eq_ediv_of_nonneg _ (Int.natCast_nonneg _)]
  simp only [Ew, BitVec.toNat_ushiftRight, Nat.shiftRight_eq_div_pow]
  rfl
theorem v_sub1 (a : BitVec 64) : Value.int .u64 (IntKind.u64.wrap ((a.toNat : Int) - 1)) = Ew (a - 1#64) := by
  simp only [Ew, Value.int.injEq, true_and, BitVec.toNat_sub]
  have := a.isLt
  rw [wrap_u64]; simp; omega
def Er (r : Nat × Nat) : List Value := [.int .u8 r.1, .int .u8 r.2]
instance : Enc Er 2 := ⟨fun _ => rfl, fun _ v hv => by simp [Er] at hv; rcases hv with rfl | rfl <;> rfl⟩
def alike (l : List Cl) (x y : Nat) : Bool := l.all fun c => c.getLsbD x == c.getLsbD y
def tabV : List Value := Lib.deBruijn64tab.map fun n : Nat => Value.int .u8 n
def Tb (S : Hp) (w : World) : Prop := RdP w 0 0 tabV ∧ 0 ∉ keys S
theorem rdp_lt {w : World} {b : Nat} {v : Value} {vs : List Value} (h : RdP w b 0 (v :: vs)) : b < w.heap.size := by
  have h1 := h.get 0 v rfl
  rcases Nat.lt_or_ge b w.heap.size with h' | h'
  · exact h'
  · simp [World.cell?, Array.getElem?_eq_none h'] at h1
theorem Tb.lt {S : Hp} {w : World} (h : Tb S w) : 0 < w.heap.size := rdp_lt (v := .int .u8 (0 : Nat)) (vs := tabV.tail) h.1
theorem tb_of {S H1 S1 : Hp} {w0 w : World} {n : Nat} {ds : List Deferred} (h : Tb S w0) (st : St (Cx.mk n ds w0 (keys S)).w0 w (Cx.mk n ds w0 (keys S)).M H1) (hs : HSub H1 S1) : Tb S1 w := by
  refine ⟨(RdPK.old (κ := ⟨n, ds, w0, keys S⟩) (H := H1) h.1 h.2).out w st, fun hm => ?_⟩
  obtain ⟨⟨b, o⟩, hm, hb⟩ := List.mem_map.1 hm
  have hb : b = 0 := hb
  subst hb
  have st1 := st.sub hs
  rcases st1.own _ _ hm with h1 | h1
  · exact h.2 h1
  · have := h.lt
    have h1 : w0.heap.size ≤ 0 := h1
    omega
theorem v_neg (w : BitVec 64) : Value.int .u64 (IntKind.u64.wrap (0 - (w.toNat : Int))) = Ew (-w) := by
  simp only [Ew, Value.int.injEq, true_and, BitVec.toNat_neg]
  have := w.isLt
  rw [wrap_u64]; omega
theorem v_mul (a b : BitVec 64) : Value.int .u64 (IntKind.u64.wrap ((a.toNat : Int) * (b.toNat : Int))) = Ew (a * b) := by
  have e : IntKind.u64.wrap ((a.toNat : Int) * (b.toNat : Int)) = ((a * b).toNat : Int) := by
    rw [wrap_u64, BitVec.toNat_mul, Int.natCast_emod, Int.natCast_mul]; rfl
  rw [e]; rfl
theorem v_mulc (a : BitVec 64) : Value.int .u64 (IntKind.u64.wrap ((a.toNat : Int) * 285870213051353865)) = Ew (a * 285870213051353865#64) := by
  have h := v_mul a (285870213051353865#64)
  have e : ((285870213051353865#64).toNat : Int) = 285870213051353865 := by decide
  rw [e] at h
  exact h
theorem ne_zero {w : BitVec 64} (h : (w.toNat : Int) ≠ 0) : w ≠ 0#64 := fun e => h (by rw [e]; rfl)
theorem eq_zero {w : BitVec 64} (h : ¬ (w.toNat : Int) ≠ 0) : w = 0#64 := BitVec.eq_of_toNat_eq (by simp at h; simpa using h)
theorem ctz_zero {w : BitVec 64} (h : (w.toNat : Int) = 0) : Lib.ctz 64 w.toNat = 64 := by
  have : w.toNat = 0 := by omega
  simp [Lib.ctz, this]
theorem ctz_le (w : BitVec 64) : Lib.ctz 64 w.toNat ≤ 64 := by
  by_cases h : w.toNat = 0
  · simp [Lib.ctz, h]
  · have := (Lib.lowest_bit 64 w.toNat h w.isLt).2; omega
theorem tab_get {k q : Nat} (h3 : q < 64) (h4 : Lib.deBruijn64tab.getD q 0 = k) : tabV[q]? = some (.int .u8 (k : Int)) := by
  have hl : Lib.deBruijn64tab.length = 64 := rfl
  unfold tabV
  rw [List.getElem?_map]
  rw [List.getD_eq_getElem?_getD] at h4
  rw [List.getElem?_eq_getElem (by rw [hl]; exact h3)] at h4 ⊢
  simp at h4
  simp [h4]
theorem tab_at (w : BitVec 64) (h : ¬ (w.toNat : Int) = 0) : (((w &&& -w) * 285870213051353865#64) >>> 58).toNat < 64 ∧ tabV[(((w &&& -w) * 285870213051353865#64) >>> 58).toNat]? = some (.int .u8 ((Lib.ctz 64 w.toNat : Nat) : Int)) := by
  have h0 : w.toNat ≠ 0 := by omega
  obtain ⟨h1, h2⟩ := Lib.lowest_bit 64 w.toNat h0 w.isLt
  obtain ⟨h3, h4⟩ := Lib.deBruijn64_at _ h2
  have e0 : (285870213051353865#64).toNat = 285870213051353865 := by decide
  have e1 : (-w).toNat = 2 ^ 64 - w.toNat := by
    rw [BitVec.toNat_neg]
    have := w.isLt
    exact Nat.mod_eq_of_lt (by omega)
  have e : (((w &&& -w) * 285870213051353865#64) >>> 58).toNat = 2 ^ Lib.ctz 64 w.toNat * 285870213051353865 % 18446744073709551616 / 288230376151711744 := by
    rw [BitVec.toNat_ushiftRight, Nat.shiftRight_eq_div_pow, BitVec.toNat_mul, BitVec.toNat_and, e1, h1, e0]
  rw [e]
  exact ⟨h3, tab_get h3 h4⟩
theorem shl6 {i : Nat} (h : i < 4) : IntKind.i64.wrap ((i : Int) * 2 ^ (min (6 : Int).toNat IntKind.i64.bits)) = ((64 * i : Nat) : Int) := by
  have : ∀ i : Fin 4, IntKind.i64.wrap ((i.val : Int) * 2 ^ (min (6 : Int).toNat IntKind.i64.bits)) = ((64 * i.val : Nat) : Int) := by decide +kernel
  exact this ⟨i, h⟩
theorem words_end {c : Cl} {i : Nat} {w : BitVec 64} {p : List Nat} (hi : i < 4) (hm : mems c = p ++ (wmem i w ++ (mems c).drop (memsTo c (64 * i + 64)).length)) (hz : w = 0#64) : p = memsTo c (64 * (i + 1)) := by
  subst hz
  rw [wmem_zero, List.nil_append] at hm
  have hp : memsTo c (64 * i + 64) <+: mems c := memsTo_prefix c (by omega)
  have hl := hp.length_le
  have h1 := congrArg List.length hm
  rw [List.length_append, List.length_drop] at h1
  have h2 : p.length = (memsTo c (64 * i + 64)).length := by omega
  have h3 : p <+: mems c := ⟨_, hm.symm⟩
  rw [show 64 * (i + 1) = 64 * i + 64 by omega]
  rw [List.prefix_iff_eq_take] at h3 hp
  rw [h3, hp, h2, ← hp]
theorem mems_lt {c : Cl} {p : List Nat} {x : Nat} (h : p ++ [x] <+: mems c) : x < 256 := by
  have : x ∈ mems c := h.subset (by simp)
  exact (memsTo_lt this).1
def least (c : Cl) : Nat := (mems c).headD 256
theorem least_head {c : Cl} {x : Nat} (h : [x] <+: mems c) : (x : Int) = ((least c : Nat) : Int) := by
  obtain ⟨r, hr⟩ := h
  simp [least, ← hr]
theorem least_nil {c : Cl} (h : mems c = []) : (256 : Int) = ((least c : Nat) : Int) := by simp [least, h]
def lastR (l : List (Nat × Nat)) : Nat × Nat := l.getD (l.length - 1) (0, 0)
def stepB (l : List (Nat × Nat)) (b : Nat) : List (Nat × Nat) := if 0 < l.length ∧ (lastR l).2 + 1 = b then l.set (l.length - 1) ((lastR l).1, b) else l ++ [(b, b)]
def runsB (p : List Nat) : List (Nat × Nat) := p.foldl stepB []
def runs (c : Cl) : List (Nat × Nat) := runsB (mems c)
theorem snoc_cases {α : Type} (l : List α) : l = [] ∨ ∃ q y, l = q ++ [y] := by
  rcases List.eq_nil_or_concat l with h | ⟨q, y, h⟩
  · exact .inl h
  · exact .inr ⟨q, y, by simpa using h⟩
end Go.HL.Kl
