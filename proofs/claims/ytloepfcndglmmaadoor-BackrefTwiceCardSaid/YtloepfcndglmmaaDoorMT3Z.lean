/- Mathematics of machines: where derivations end, the code of a regex, its runs. Conditions: none. -/
import Derived.Test.YtloepfcndglmmaaDoorHTZ
import Derived.Test.YtloepfcndglmmaaDoorHlB
namespace Go.HL.Kl.Mc
open Go Go.HL Go.HL.Kl
def pow (D : Nat → Nat → Prop) : Nat → Nat → Nat → Prop
  | 0, p, q => p = q
  | k + 1, p, q => ∃ m, D p m ∧ pow D k m q
def rounds (x : Nd) (D : Nat → Nat → Prop) (p q : Nat) : Prop := ∃ k : Nat, x.mn ≤ (k : Int) ∧ (x.mx = -1 ∨ (k : Int) ≤ x.mx) ∧ pow D k p q
def der (w : List UInt8) : F → Bool → Nat → Nat → Prop
  | .nil, m, p, q => m = false ∧ p = q
  | .nd x ks r, m, p, q =>
    let one : Nat → Nat → Prop := fun p q =>
      if x.op = 1 then q = p + 1 ∧ ∃ b, w[p]? = some b ∧ x.set.getLsbD b.toNat = true
      else if x.op = 2 then p = 0 ∧ q = 0
      else if x.op = 3 then p = w.length ∧ q = p
      else if x.op = 5 then der w ks true p q
      else if x.op = 6 then rounds x (der w ks false) p q
      else der w ks false p q
    if m = true then one p q ∨ der w r true p q else ∃ t, one p t ∧ der w r false t q
structure In where
  op : Int
  set : Cl
  x : Int
  y : Int
  deriving DecidableEq
def Ein (i : In) : List Value := .int .i8 i.op :: (Ec i.set ++ [.int .i64 i.x, .int .i64 i.y])
instance : Enc Ein 7 := ⟨fun x => by simp [Ein, Enc.len], fun x v hv => by
  simp only [Ein, List.mem_cons, List.mem_append, List.not_mem_nil, or_false] at hv
  rcases hv with rfl | hv | rfl | rfl
  · rfl
  · exact Ec_one _ v hv
  all_goals rfl⟩
def lenOne (x : Nd) (cat alt : Nat) : Nat :=
  if x.op = 1 ∨ x.op = 2 ∨ x.op = 3 then 1 else if x.op = 5 then alt
  else if x.op = 6 then x.mn.toNat * cat + (if x.mx = -1 then cat + 2 else (x.mx - x.mn).toNat * (cat + 1)) else cat
def lenM : F → Bool → Nat
  | .nil, _ => 0
  | .nd x ks r, m => lenOne x (lenM ks false) (lenM ks true) + (if m = true then (match r with | .nil => 0 | _ => 2) else 0) + lenM r m
def copies (c : Nat → List In) (L : Nat) : Nat → Nat → List In
  | 0, _ => []
  | k + 1, b => c b ++ copies c L k (b + L)
def opts (c : Nat → List In) (L e : Nat) : Nat → Nat → List In
  | 0, _ => []
  | k + 1, b => ⟨5, 0, (b + 1 : Nat), e⟩ :: (c (b + 1) ++ opts c L e k (b + 1 + L))
def repC (x : Nd) (c : Nat → List In) (L b : Nat) : List In :=
  copies c L x.mn.toNat b ++
    (let b1 := b + x.mn.toNat * L
     if x.mx = -1 then ⟨5, 0, (b1 + 1 : Nat), (b1 + L + 2 : Nat)⟩ :: (c (b1 + 1) ++ [⟨4, 0, (b1 : Nat), 0⟩])
     else opts c L (b1 + (x.mx - x.mn).toNat * (L + 1)) (x.mx - x.mn).toNat b1)
def oneC (x : Nd) (c a : Nat → List In) (L b : Nat) : List In :=
  if x.op = 1 then [⟨1, x.set, 0, 0⟩] else if x.op = 2 then [⟨2, 0, 0, 0⟩] else if x.op = 3 then [⟨3, 0, 0, 0⟩]
  else if x.op = 5 then a b else if x.op = 6 then repC x c L b else c b
def code : F → Bool → Nat → Nat → List In
  | .nil, _, _, _ => []
  | .nd x ks r, m, b, e =>
    let one : Nat → List In := oneC x (fun b => code ks false b 0) (fun b => code ks true b (b + lenM ks true)) (lenM ks false)
    let L := lenOne x (lenM ks false) (lenM ks true)
    if m = true then (match r with
      | .nil => one b
      | _ => ⟨5, 0, (b + 1 : Nat), (b + L + 2 : Nat)⟩ :: (one (b + 1) ++ (⟨4, 0, e, 0⟩ :: code r true (b + L + 2) e)))
    else one b ++ code r false (b + L) 0
theorem copies_len {c : Nat → List In} {L : Nat} (h : ∀ b, (c b).length = L) : ∀ k b, (copies c L k b).length = k * L
  | 0, b => by simp [copies]
  | k + 1, b => by simp only [copies, List.length_append, h, copies_len h k, Nat.succ_mul]; omega
theorem opts_len {c : Nat → List In} {L e : Nat} (h : ∀ b, (c b).length = L) : ∀ k b, (opts c L e k b).length = k * (L + 1)
  | 0, b => by simp [opts]
  | k + 1, b => by simp only [opts, List.length_cons, List.length_append, h, opts_len h k, Nat.succ_mul]; omega
theorem oneC_len {x : Nd} {c a : Nat → List In} {L A : Nat} (hc : ∀ b, (c b).length = L) (ha : ∀ b, (a b).length = A) (b : Nat) : (oneC x c a L b).length = lenOne x L A := by
  unfold oneC lenOne
  by_cases h1 : x.op = 1
  · simp [h1]
  by_cases h2 : x.op = 2
  · simp [h2]
  by_cases h3 : x.op = 3
  · simp [h3]
  by_cases h5 : x.op = 5
  · simp [h5, ha]
  by_cases h6 : x.op = 6
  · simp only [h6, repC]
    by_cases hm : x.mx = -1
    · simp [hm, copies_len hc, hc]
    · simp [hm, copies_len hc, opts_len hc]
  · simp [h1, h2, h3, h5, h6, hc]
theorem code_len : ∀ (f : F) (m : Bool) (b e : Nat), (code f m b e).length = lenM f m
  | .nil, _, _, _ => rfl
  | .nd x ks r, m, b, e => by
    have hc : ∀ b, (code ks false b 0).length = lenM ks false := fun b => code_len ks false b 0
    have ha : ∀ b, (code ks true b (b + lenM ks true)).length = lenM ks true := fun b => code_len ks true b _
    have h1 := oneC_len (x := x) hc ha
    cases m with
    | false =>
      simp only [code, lenM, Bool.false_eq_true, if_false, List.length_append]
      rw [h1, code_len r false]; omega
    | true =>
      cases r with
      | nil => simp [code, lenM, h1]
      | nd y ks' r' =>
        have h2 := code_len (.nd y ks' r') true (b + lenOne x (lenM ks false) (lenM ks true) + 2) e
        show (_ :: (oneC x (fun b => code ks false b 0) (fun b => code ks true b (b + lenM ks true)) (lenM ks false) (b + 1) ++ (_ :: code (.nd y ks' r') true (b + lenOne x (lenM ks false) (lenM ks true) + 2) e)) : List In).length = lenOne x (lenM ks false) (lenM ks true) + 2 + lenM (.nd y ks' r') true
        rw [List.length_cons, List.length_append, List.length_cons, h1, h2]; omega
/-! runs -/
inductive Stp (m : List In) (w : List UInt8) : Nat × Nat → Nat × Nat → Prop
  | set {i p : Nat} {t : In} {b : UInt8} (h : m[i]? = some t) (ho : t.op = 1) (hb : w[p]? = some b) (hs : t.set.getLsbD b.toNat = true) : Stp m w (i, p) (i + 1, p + 1)
  | bol {i : Nat} {t : In} (h : m[i]? = some t) (ho : t.op = 2) : Stp m w (i, 0) (i + 1, 0)
  | eol {i : Nat} {t : In} (h : m[i]? = some t) (ho : t.op = 3) : Stp m w (i, w.length) (i + 1, w.length)
  | jmp {i p j : Nat} {t : In} (h : m[i]? = some t) (ho : t.op = 4) (hx : t.x = (j : Int)) : Stp m w (i, p) (j, p)
  | spx {i p j : Nat} {t : In} (h : m[i]? = some t) (ho : t.op = 5) (hx : t.x = (j : Int)) : Stp m w (i, p) (j, p)
  | spy {i p j : Nat} {t : In} (h : m[i]? = some t) (ho : t.op = 5) (hy : t.y = (j : Int)) : Stp m w (i, p) (j, p)
inductive RunN (m : List In) (w : List UInt8) : Nat → Nat × Nat → Nat × Nat → Prop
  | zero {c : Nat × Nat} : RunN m w 0 c c
  | step {n : Nat} {c c' c'' : Nat × Nat} (h : Stp m w c c') (hr : RunN m w n c' c'') : RunN m w (n + 1) c c''
def Run (m : List In) (w : List UInt8) (c c' : Nat × Nat) : Prop := ∃ n, RunN m w n c c'
variable {m : List In} {w : List UInt8}
theorem RunN.trans {n k : Nat} {a b c : Nat × Nat} (h : RunN m w n a b) (h' : RunN m w k b c) : RunN m w (n + k) a c := by
  induction h with
  | zero => simpa using h'
  | step s _ ih => rw [show ∀ x, x + 1 + k = (x + k) + 1 by omega]; exact .step s (ih h')
theorem Run.refl {c : Nat × Nat} : Run m w c c := ⟨0, .zero⟩
theorem Run.trans {a b c : Nat × Nat} (h : Run m w a b) (h' : Run m w b c) : Run m w a c := by
  obtain ⟨n, h⟩ := h; obtain ⟨k, h'⟩ := h'; exact ⟨_, h.trans h'⟩
theorem Run.one {a b : Nat × Nat} (h : Stp m w a b) : Run m w a b := ⟨1, .step h .zero⟩
theorem Run.cons {a b c : Nat × Nat} (h : Stp m w a b) (h' : Run m w b c) : Run m w a c := (Run.one h).trans h'
def At (m : List In) (b : Nat) (c : List In) : Prop := ∀ i t, c[i]? = some t → m[b + i]? = some t
theorem At.left {b : Nat} {c d : List In} (h : At m b (c ++ d)) : At m b c := fun i t hi => h i t (by rw [List.getElem?_append_left (List.getElem?_eq_some_iff.1 hi).1]; exact hi)
theorem At.right {b k : Nat} {c d : List In} (h : At m b (c ++ d)) (hk : c.length = k) : At m (b + k) d := fun i t hi => by
  subst hk
  have := h (c.length + i) t (by rw [List.getElem?_append_right (by omega)]; simpa using hi)
  rwa [← Nat.add_assoc] at this
theorem At.head {b : Nat} {t : In} {c : List In} (h : At m b (t :: c)) : m[b]? = some t := h 0 t rfl
theorem At.tail {b : Nat} {t : In} {c : List In} (h : At m b (t :: c)) : At m (b + 1) c := fun i t' hi => by
  have := h (i + 1) t' (by simpa using hi)
  rwa [show b + (i + 1) = b + 1 + i by omega] at this
structure Means (m : List In) (w : List UInt8) (b e : Nat) (D : Nat → Nat → Prop) : Prop where
  le : b ≤ e
  run : ∀ p q, D p q → Run m w (b, p) (e, q)
  out : ∀ n p c q, RunN m w n (b, p) (c, q) → ¬ (b ≤ c ∧ c < e) → ∃ k q', k ≤ n ∧ D p q' ∧ RunN m w k (e, q') (c, q)
theorem Means.nil {b : Nat} : Means m w b b (fun p q => p = q) := ⟨Nat.le_refl _, fun p q h => by subst h; exact .refl, fun n p c q h _ => ⟨n, p, Nat.le_refl _, rfl, h⟩⟩
theorem Means.iff {b e : Nat} {D D' : Nat → Nat → Prop} (h : Means m w b e D) (hd : ∀ p q, D p q ↔ D' p q) : Means m w b e D' := by
  have : D = D' := funext fun p => funext fun q => propext (hd p q)
  exact this ▸ h
theorem Means.seq {a b c : Nat} {D D' : Nat → Nat → Prop} (h : Means m w a b D) (h' : Means m w b c D') : Means m w a c (fun p q => ∃ t, D p t ∧ D' t q) := by
  refine ⟨Nat.le_trans h.le h'.le, fun p q ⟨t, h1, h2⟩ => (h.run _ _ h1).trans (h'.run _ _ h2), fun n p x q hr hx => ?_⟩
  obtain ⟨k, q', hk, hD, hr'⟩ := h.out n p x q hr (by have := h'.le; omega)
  obtain ⟨k2, q2, hk2, hD2, hr2⟩ := h'.out k q' x q hr' (by have := h.le; omega)
  exact ⟨k2, q2, by omega, ⟨q', hD, hD2⟩, hr2⟩
theorem Means.one {b : Nat} {D : Nat → Nat → Prop} (hr : ∀ p q, D p q → Stp m w (b, p) (b + 1, q)) (ho : ∀ p c q, Stp m w (b, p) (c, q) → c = b + 1 ∧ D p q) : Means m w b (b + 1) D := by
  refine ⟨by omega, fun p q h => .one (hr p q h), fun n p c q h hc => ?_⟩
  cases h with
  | zero => omega
  | step s r =>
    rename_i k c'
    obtain ⟨i, p'⟩ := c'
    obtain ⟨rfl, hD⟩ := ho _ _ _ s
    exact ⟨k, p', by omega, hD, r⟩
theorem Means.copies {c : Nat → List In} {L : Nat} {D : Nat → Nat → Prop} (hl : ∀ b, (c b).length = L) (hm : ∀ b, At m b (c b) → Means m w b (b + L) D) : ∀ k b, At m b (Mc.copies c L k b) → Means m w b (b + k * L) (pow D k)
  | 0, b, _ => by
    rw [Nat.zero_mul, Nat.add_zero]
    exact (Means.nil (b := b)).iff (fun p q => Iff.rfl)
  | k + 1, b, h => by
    have h1 := hm b h.left
    have h2 := Means.copies hl hm k (b + L) (h.right (hl b))
    have := h1.seq h2
    rw [show b + (k + 1) * L = b + L + k * L by rw [Nat.succ_mul]; omega]
    exact this
theorem Means.opts {c : Nat → List In} {L e : Nat} {D : Nat → Nat → Prop} (hl : ∀ b, (c b).length = L) (hm : ∀ b, At m b (c b) → Means m w b (b + L) D) : ∀ k b, b + k * (L + 1) = e → At m b (Mc.opts c L e k b) → Means m w b e (fun p q => ∃ j, j ≤ k ∧ pow D j p q)
  | 0, b, he, _ => by
    have : b = e := by simpa using he
    subst this; refine (Means.nil (b := b)).iff (fun p q => ⟨fun h => ⟨0, Nat.le_refl _, h⟩, fun ⟨j, hj, h⟩ => ?_⟩)
    obtain rfl : j = 0 := by omega
    exact h
  | k + 1, b, he, h => by
    have he' : b + 1 + L + k * (L + 1) = e := by rw [Nat.succ_mul] at he; omega
    have h0 := h.head
    have h1 := hm (b + 1) h.tail.left
    have h2 := Means.opts hl hm k (b + 1 + L) he' (h.tail.right (hl _))
    have h3 := h1.seq h2
    refine ⟨by omega, fun p q ⟨j, hj, hp⟩ => ?_, fun n p x q hr hx => ?_⟩
    · cases j with
      | zero => obtain rfl : p = q := hp
                exact .one (.spy h0 rfl rfl)
      | succ j =>
        obtain ⟨t, hD, hp⟩ := hp
        exact .cons (.spx h0 rfl rfl) (h3.run p q ⟨t, hD, j, by omega, hp⟩)
    · cases hr with
      | zero => omega
      | step s r =>
        rename_i n' c'
        obtain ⟨i, p'⟩ := c'
        cases s with
        | set h ho hb hs => rw [h0] at h; cases h; simp at ho
        | bol h ho => rw [h0] at h; cases h; simp at ho
        | eol h ho => rw [h0] at h; cases h; simp at ho
        | jmp h ho hx => rw [h0] at h; cases h; simp at ho
        | spx h ho hx =>
          rw [h0] at h; cases h
          have : i = b + 1 := by simp at hx; omega
          subst this
          obtain ⟨k2, q2, hk2, ⟨t, hD, j, hj, hp⟩, hr2⟩ := h3.out _ _ _ _ r (by omega)
          exact ⟨k2, q2, by omega, ⟨j + 1, by omega, t, hD, hp⟩, hr2⟩
        | spy h ho hy =>
          rw [h0] at h; cases h
          have : i = e := by simp at hy; omega
          subst this
          exact ⟨n', _, by omega, ⟨0, by omega, rfl⟩, r⟩
theorem Means.star {b L : Nat} {D : Nat → Nat → Prop} (hs : m[b]? = some ⟨5, 0, (b + 1 : Nat), (b + L + 2 : Nat)⟩) (hj : m[b + 1 + L]? = some ⟨4, 0, (b : Nat), 0⟩) (hm : Means m w (b + 1) (b + 1 + L) D) :
    Means m w b (b + L + 2) (fun p q => ∃ j, pow D j p q) := by
  have hrun : ∀ j p q, pow D j p q → Run m w (b, p) (b + L + 2, q) := by
    intro j
    induction j with
    | zero =>
      intro p q hp
      obtain rfl : p = q := hp
      exact .one (.spy hs rfl rfl)
    | succ j ih =>
      intro p q hp
      obtain ⟨t, hD, hp⟩ := hp
      exact .cons (.spx hs rfl rfl) ((hm.run p t hD).trans (.cons (.jmp hj rfl rfl) (ih t q hp)))
  refine ⟨by omega, fun p q ⟨j, hp⟩ => hrun j p q hp, ?_⟩
  · intro n
    induction n using Nat.strongRecOn with
    | _ n ih =>
      intro p x q hr hx
      cases hr with
      | zero => omega
      | step s r =>
        rename_i n' c'
        obtain ⟨i, p'⟩ := c'
        cases s with
        | set h ho hb hs' => rw [hs] at h; cases h; simp at ho
        | bol h ho => rw [hs] at h; cases h; simp at ho
        | eol h ho => rw [hs] at h; cases h; simp at ho
        | jmp h ho hx => rw [hs] at h; cases h; simp at ho
        | spx h ho hx' =>
          rw [hs] at h; cases h
          have : i = b + 1 := by simp at hx'; omega
          subst this
          obtain ⟨k2, q2, hk2, hD, hr2⟩ := hm.out _ _ _ _ r (by omega)
          cases hr2 with
          | zero => omega
          | step s2 r2 =>
            rename_i n2 c2
            obtain ⟨i2, p2⟩ := c2
            cases s2 with
            | set h ho hb hs' => rw [hj] at h; cases h; simp at ho
            | bol h ho => rw [hj] at h; cases h; simp at ho
            | eol h ho => rw [hj] at h; cases h; simp at ho
            | spx h ho hx => rw [hj] at h; cases h; simp at ho
            | spy h ho hx => rw [hj] at h; cases h; simp at ho
            | jmp h ho hx2 =>
              rw [hj] at h; cases h
              have : i2 = b := by simp at hx2; omega
              subst this
              obtain ⟨k3, q3, hk3, ⟨j, hp⟩, hr3⟩ := ih n2 (by omega) _ _ _ r2 hx
              exact ⟨k3, q3, by omega, ⟨j + 1, _, hD, hp⟩, hr3⟩
        | spy h ho hy =>
          rw [hs] at h; cases h
          have : i = b + L + 2 := by simp at hy; omega
          subst this
          exact ⟨n', _, by omega, ⟨0, rfl⟩, r⟩
theorem Means.alt {b L e : Nat} {D D' : Nat → Nat → Prop} (hs : m[b]? = some ⟨5, 0, (b + 1 : Nat), (b + L + 2 : Nat)⟩) (hj : m[b + 1 + L]? = some ⟨4, 0, (e : Nat), 0⟩) (hm : Means m w (b + 1) (b + 1 + L) D) (hm' : Means m w (b + L + 2) e D') :
    Means m w b e (fun p q => D p q ∨ D' p q) := by
  have hle := hm'.le
  refine ⟨by omega, fun p q h => ?_, fun n p x q hr hx => ?_⟩
  · rcases h with h | h
    · exact .cons (.spx hs rfl rfl) ((hm.run p q h).trans (.one (.jmp hj rfl rfl)))
    · exact .cons (.spy hs rfl rfl) (hm'.run p q h)
  · cases hr with
    | zero => omega
    | step s r =>
      rename_i n' c'
      obtain ⟨i, p'⟩ := c'
      cases s with
      | set h ho hb hs' => rw [hs] at h; cases h; simp at ho
      | bol h ho => rw [hs] at h; cases h; simp at ho
      | eol h ho => rw [hs] at h; cases h; simp at ho
      | jmp h ho hx => rw [hs] at h; cases h; simp at ho
      | spx h ho hx' =>
        rw [hs] at h; cases h
        have : i = b + 1 := by simp at hx'; omega
        subst this
        obtain ⟨k2, q2, hk2, hD, hr2⟩ := hm.out _ _ _ _ r (by omega)
        cases hr2 with
        | zero => omega
        | step s2 r2 =>
          rename_i n2 c2
          obtain ⟨i2, p2⟩ := c2
          cases s2 with
          | set h ho hb hs' => rw [hj] at h; cases h; simp at ho
          | bol h ho => rw [hj] at h; cases h; simp at ho
          | eol h ho => rw [hj] at h; cases h; simp at ho
          | spx h ho hx => rw [hj] at h; cases h; simp at ho
          | spy h ho hx => rw [hj] at h; cases h; simp at ho
          | jmp h ho hx2 =>
            rw [hj] at h; cases h
            have : i2 = e := by simp at hx2; omega
            subst this
            exact ⟨n2, _, by omega, .inl hD, r2⟩
      | spy h ho hy =>
        rw [hs] at h; cases h
        have : i = b + L + 2 := by simp at hy; omega
        subst this
        obtain ⟨k2, q2, hk2, hD, hr2⟩ := hm'.out _ _ _ _ r (by omega)
        exact ⟨k2, q2, by omega, .inr hD, hr2⟩
theorem pow_add {D : Nat → Nat → Prop} : ∀ a b p q, pow D (a + b) p q ↔ ∃ t, pow D a p t ∧ pow D b t q
  | 0, b, p, q => by simp [pow]
  | a + 1, b, p, q => by
    rw [show a + 1 + b = (a + b) + 1 by omega]
    simp only [pow, pow_add a b]
    constructor
    · rintro ⟨s, h, t, h1, h2⟩; exact ⟨t, ⟨s, h, h1⟩, h2⟩
    · rintro ⟨t, ⟨s, h, h1⟩, h2⟩; exact ⟨s, h, t, h1, h2⟩
theorem rep_flds {x : Nd} (h : ndOk x = true) (h6 : x.op = 6) : 0 ≤ x.mn ∧ x.mn ≤ 255 ∧ (x.mx = -1 ∨ x.mn ≤ x.mx ∧ x.mx ≤ 255) := by
  simp only [ndOk, flds, Bool.and_eq_true] at h
  have h := h.1.2
  rw [if_pos h6] at h
  simpa using h
theorem Means.rep {x : Nd} {c : Nat → List In} {L b : Nat} {D : Nat → Nat → Prop} (hx : 0 ≤ x.mn ∧ x.mn ≤ 255 ∧ (x.mx = -1 ∨ x.mn ≤ x.mx ∧ x.mx ≤ 255)) (hl : ∀ b, (c b).length = L) (hm : ∀ b, At m b (c b) → Means m w b (b + L) D) (h : At m b (repC x c L b)) :
    Means m w b (b + (x.mn.toNat * L + (if x.mx = -1 then L + 2 else (x.mx - x.mn).toNat * (L + 1)))) (rounds x D) := by
  have h1 := Means.copies hl hm x.mn.toNat b h.left
  have h2 := h.right (copies_len hl _ _)
  by_cases hmx : x.mx = -1
  · rw [if_pos hmx] at h2 ⊢
    have h3 := Means.star (L := L) h2.head (h2.tail.right (hl _)).head (hm _ h2.tail.left)
    rw [show b + (x.mn.toNat * L + (L + 2)) = b + x.mn.toNat * L + L + 2 by omega]
    refine (h1.seq h3).iff fun p q => ⟨fun ⟨t, ha, j, hb⟩ => ⟨x.mn.toNat + j, by omega, .inl hmx, (pow_add _ _ _ _).2 ⟨t, ha, hb⟩⟩, fun ⟨k, hk, _, hp⟩ => ?_⟩
    obtain ⟨t, ha, hb⟩ := (pow_add x.mn.toNat (k - x.mn.toNat) p q).1 (by rwa [show x.mn.toNat + (k - x.mn.toNat) = k by omega])
    exact ⟨t, ha, _, hb⟩
  · rw [if_neg hmx] at h2 ⊢
    have h3 := Means.opts hl hm (x.mx - x.mn).toNat (b + x.mn.toNat * L) rfl h2
    rw [show b + (x.mn.toNat * L + (x.mx - x.mn).toNat * (L + 1)) = b + x.mn.toNat * L + (x.mx - x.mn).toNat * (L + 1) by omega]
    refine (h1.seq h3).iff fun p q => ⟨fun ⟨t, ha, j, hj, hb⟩ => ⟨x.mn.toNat + j, by omega, .inr (by omega), (pow_add _ _ _ _).2 ⟨t, ha, hb⟩⟩, fun ⟨k, hk, hk2, hp⟩ => ?_⟩
    obtain ⟨t, ha, hb⟩ := (pow_add x.mn.toNat (k - x.mn.toNat) p q).1 (by rwa [show x.mn.toNat + (k - x.mn.toNat) = k by omega])
    exact ⟨t, ha, _, by omega, hb⟩
theorem alt_kids {x : Nd} (h : ndOk x = true) (h5 : x.op = 5) : 2 ≤ x.kids := by
  simp only [ndOk, Bool.and_eq_true, kidsOk] at h
  have h := h.2
  rw [if_neg (by omega), if_neg (by omega), if_pos h5] at h
  simpa using h
theorem means_code : ∀ (f : F) (md : Bool) (b e : Nat), f.wf → (md = true → f ≠ .nil ∧ e = b + lenM f true) → At m b (code f md b e) → Means m w b (b + lenM f md) (der w f md)
  | .nil, md, b, e, _, hmd, h => by
    cases md with
    | true => exact absurd rfl (hmd rfl).1
    | false => exact (Means.nil (b := b)).iff fun p q => by simp [der]
  | .nd x ks r, md, b, e, hw, hmd, h => by
    have hc : ∀ b, (code ks false b 0).length = lenM ks false := fun b => code_len ks false b 0
    have ha : ∀ b, (code ks true b (b + lenM ks true)).length = lenM ks true := fun b => code_len ks true b _
    have hone : ∀ b, At m b (oneC x (fun b => code ks false b 0) (fun b => code ks true b (b + lenM ks true)) (lenM ks false) b) → Means m w b (b + lenOne x (lenM ks false) (lenM ks true)) (fun p q =>
        if x.op = 1 then q = p + 1 ∧ ∃ b, w[p]? = some b ∧ x.set.getLsbD b.toNat = true
        else if x.op = 2 then p = 0 ∧ q = 0
        else if x.op = 3 then p = w.length ∧ q = p
        else if x.op = 5 then der w ks true p q
        else if x.op = 6 then rounds x (der w ks false) p q
        else der w ks false p q) := by
      intro b hb
      unfold oneC at hb
      unfold lenOne
      by_cases h1 : x.op = 1
      · simp only [h1, if_true, true_or] at hb ⊢
        refine Means.one (fun p q ⟨h2, y, h3, h4⟩ => by subst h2; exact .set hb.head rfl h3 h4) fun p c q hs => ?_
        cases hs with
        | set h ho hb' hs => rw [hb.head] at h; cases h; exact ⟨rfl, rfl, _, hb', hs⟩
        | bol h ho => rw [hb.head] at h; cases h; simp at ho
        | eol h ho => rw [hb.head] at h; cases h; simp at ho
        | jmp h ho hx => rw [hb.head] at h; cases h; simp at ho
        | spx h ho hx => rw [hb.head] at h; cases h; simp at ho
        | spy h ho hx => rw [hb.head] at h; cases h; simp at ho
      by_cases h2 : x.op = 2
      · simp only [h2, if_true, true_or, or_true, show ¬ ((2 : Int) = 1) by omega, if_false] at hb ⊢
        refine Means.one (fun p q ⟨h2, h3⟩ => by subst h2; subst h3; exact .bol hb.head rfl) fun p c q hs => ?_
        cases hs with
        | set h ho hb' hs => rw [hb.head] at h; cases h; simp at ho
        | bol h ho => exact ⟨rfl, rfl, rfl⟩
        | eol h ho => rw [hb.head] at h; cases h; simp at ho
        | jmp h ho hx => rw [hb.head] at h; cases h; simp at ho
        | spx h ho hx => rw [hb.head] at h; cases h; simp at ho
        | spy h ho hx => rw [hb.head] at h; cases h; simp at ho
      by_cases h3 : x.op = 3
      · simp only [h3, if_true, or_true, show ¬ ((3 : Int) = 1) by omega, show ¬ ((3 : Int) = 2) by omega, if_false] at hb ⊢
        refine Means.one (fun p q ⟨h2, h3⟩ => by subst h3; subst h2; exact .eol hb.head rfl) fun p c q hs => ?_
        cases hs with
        | set h ho hb' hs => rw [hb.head] at h; cases h; simp at ho
        | bol h ho => rw [hb.head] at h; cases h; simp at ho
        | eol h ho => exact ⟨rfl, rfl, rfl⟩
        | jmp h ho hx => rw [hb.head] at h; cases h; simp at ho
        | spx h ho hx => rw [hb.head] at h; cases h; simp at ho
        | spy h ho hx => rw [hb.head] at h; cases h; simp at ho
      by_cases h5 : x.op = 5
      · simp only [h5, if_true, show ¬ ((5 : Int) = 1) by omega, show ¬ ((5 : Int) = 2) by omega, show ¬ ((5 : Int) = 3) by omega, or_self, if_false] at hb ⊢
        refine means_code ks true b _ hw.2.2.1 (fun _ => ⟨?_, rfl⟩) hb
        rintro rfl
        have := alt_kids hw.1 h5
        have := hw.2.1
        simp [F.num] at this
        omega
      by_cases h6 : x.op = 6
      · simp only [h6, if_true, show ¬ ((6 : Int) = 1) by omega, show ¬ ((6 : Int) = 2) by omega, show ¬ ((6 : Int) = 3) by omega, show ¬ ((6 : Int) = 5) by omega, or_self, if_false] at hb ⊢
        exact Means.rep (rep_flds hw.1 h6) hc (fun b hb => means_code ks false b 0 hw.2.2.1 (fun h => by cases h) hb) hb
      · simp only [h1, h2, h3, h5, h6, or_self, if_false] at hb ⊢
        exact means_code ks false b 0 hw.2.2.1 (fun h => by cases h) hb
    cases md with
    | false =>
      simp only [code, Bool.false_eq_true, if_false] at h
      have h1 := hone b h.left
      have h2 := means_code r false _ 0 hw.2.2.2 (fun h => by cases h) (h.right (oneC_len hc ha b))
      have h3 := h1.seq h2
      simp only [lenM, der, Bool.false_eq_true, if_false]
      rw [show b + (lenOne x (lenM ks false) (lenM ks true) + 0 + lenM r false) = b + lenOne x (lenM ks false) (lenM ks true) + lenM r false by omega]
      exact h3
    | true =>
      cases r with
      | nil =>
        simp only [code, if_true] at h
        simp only [lenM, if_true, der]
        refine (hone b h).iff fun p q => ?_
        simp
      | nd y ks' r' =>
        obtain ⟨_, he⟩ := hmd rfl
        have h : At m b (⟨5, 0, (b + 1 : Nat), (b + lenOne x (lenM ks false) (lenM ks true) + 2 : Nat)⟩ :: (oneC x (fun b => code ks false b 0) (fun b => code ks true b (b + lenM ks true)) (lenM ks false) (b + 1) ++ (⟨4, 0, e, 0⟩ :: code (.nd y ks' r') true (b + lenOne x (lenM ks false) (lenM ks true) + 2) e))) := h
        have h1 := hone (b + 1) h.tail.left
        have h2 := h.tail.right (oneC_len hc ha _)
        have hL : lenM (.nd x ks (.nd y ks' r')) true = lenOne x (lenM ks false) (lenM ks true) + 2 + lenM (.nd y ks' r') true := rfl
        have h3 := means_code (.nd y ks' r') true (b + lenOne x (lenM ks false) (lenM ks true) + 2) e hw.2.2.2 (fun _ => ⟨(fun h => by cases h), by rw [he, hL]; omega⟩) (by
          have := h2.tail
          rwa [show b + 1 + lenOne x (lenM ks false) (lenM ks true) + 1 = b + lenOne x (lenM ks false) (lenM ks true) + 2 by omega] at this)
        have h4 := Means.alt (e := e) h.head h2.head h1 (by rw [he, hL]; rw [show b + (lenOne x (lenM ks false) (lenM ks true) + 2 + lenM (.nd y ks' r') true) = b + lenOne x (lenM ks false) (lenM ks true) + 2 + lenM (.nd y ks' r') true by omega]; exact h3)
        rw [← he]
        refine h4.iff fun p q => ?_
        conv => rhs; rw [der]
        simp
theorem means_all {f : F} (hw : f.wf) (p q : Nat) : Run (code f false 0 0 ++ [⟨6, 0, 0, 0⟩]) w (0, p) (lenM f false, q) ↔ der w f false p q := by
  have h : Means (code f false 0 0 ++ [⟨6, 0, 0, 0⟩]) w 0 (0 + lenM f false) (der w f false) := means_code f false 0 0 hw (fun h => by cases h) (fun i t hi => by
    rw [Nat.zero_add, List.getElem?_append_left (List.getElem?_eq_some_iff.1 hi).1]; exact hi)
  rw [Nat.zero_add] at h
  refine ⟨fun ⟨n, hr⟩ => ?_, h.run p q⟩
  obtain ⟨k, q', _, hD, hr'⟩ := h.out n p _ q hr (by omega)
  cases hr' with
  | zero => exact hD
  | step s _ =>
    have hd : (code f false 0 0 ++ [(⟨6, 0, 0, 0⟩ : In)])[lenM f false]? = some ⟨6, 0, 0, 0⟩ := by
      rw [List.getElem?_append_right (by rw [code_len]; omega), code_len]; simp
    exfalso
    cases s with
    | set h ho hb' hs => rw [hd] at h; cases h; simp at ho
    | bol h ho => rw [hd] at h; cases h; simp at ho
    | eol h ho => rw [hd] at h; cases h; simp at ho
    | jmp h ho hx => rw [hd] at h; cases h; simp at ho
    | spx h ho hx => rw [hd] at h; cases h; simp at ho
    | spy h ho hx => rw [hd] at h; cases h; simp at ho
end Go.HL.Kl.Mc
namespace Go.HL.Kl.Mc
open Go Go.HL Go.HL.Kl
variable {m : List In} {w : List UInt8}
def Eps (m : List In) (n p i j : Nat) : Prop := ∃ t, m[i]? = some t ∧ ((t.op = 2 ∧ p = 0 ∧ j = i + 1) ∨ (t.op = 3 ∧ p = n ∧ j = i + 1) ∨ (t.op = 4 ∧ t.x = (j : Int)) ∨ (t.op = 5 ∧ (t.x = (j : Int) ∨ t.y = (j : Int))))
inductive EpsS (m : List In) (n p : Nat) : Nat → Nat → Prop
  | refl {i : Nat} : EpsS m n p i i
  | head {i j k : Nat} (h : Eps m n p i j) (hs : EpsS m n p j k) : EpsS m n p i k
theorem EpsS.trans {n p i j k : Nat} (h : EpsS m n p i j) (h' : EpsS m n p j k) : EpsS m n p i k := by
  induction h with
  | refl => exact h'
  | head e _ ih => exact .head e (ih h')
theorem EpsS.tail {n p i j k : Nat} (h : EpsS m n p i j) (h' : Eps m n p j k) : EpsS m n p i k := h.trans (.head h' .refl)
def Eat (m : List In) (w : List UInt8) (i p : Nat) : Prop := ∃ t b, m[i]? = some t ∧ t.op = 1 ∧ w[p]? = some b ∧ t.set.getLsbD b.toNat = true
theorem stp_iff {i p j q : Nat} : Stp m w (i, p) (j, q) ↔ (q = p ∧ Eps m w.length p i j) ∨ (q = p + 1 ∧ j = i + 1 ∧ Eat m w i p) := by
  constructor
  · intro h
    cases h with
    | set h ho hb hs => exact .inr ⟨rfl, rfl, _, _, h, ho, hb, hs⟩
    | bol h ho => exact .inl ⟨rfl, _, h, .inl ⟨ho, rfl, rfl⟩⟩
    | eol h ho => exact .inl ⟨rfl, _, h, .inr (.inl ⟨ho, rfl, rfl⟩)⟩
    | jmp h ho hx => exact .inl ⟨rfl, _, h, .inr (.inr (.inl ⟨ho, hx⟩))⟩
    | spx h ho hx => exact .inl ⟨rfl, _, h, .inr (.inr (.inr ⟨ho, .inl hx⟩))⟩
    | spy h ho hx => exact .inl ⟨rfl, _, h, .inr (.inr (.inr ⟨ho, .inr hx⟩))⟩
  · rintro (⟨rfl, t, h, h1⟩ | ⟨rfl, rfl, t, b, h, ho, hb, hs⟩)
    · rcases h1 with ⟨ho, rfl, rfl⟩ | ⟨ho, rfl, rfl⟩ | ⟨ho, hx⟩ | ⟨ho, hx | hx⟩
      · exact .bol h ho
      · exact .eol h ho
      · exact .jmp h ho hx
      · exact .spx h ho hx
      · exact .spy h ho hx
    · exact .set h ho hb hs
theorem EpsS.run {p i j : Nat} (h : EpsS m w.length p i j) : Run m w (i, p) (j, p) := by
  induction h with
  | refl => exact .refl
  | head e _ ih => exact .cons (stp_iff.2 (.inl ⟨rfl, e⟩)) ih
theorem runN_le {n : Nat} {c c' : Nat × Nat} (h : RunN m w n c c') : c.2 ≤ c'.2 := by
  induction h with
  | zero => exact Nat.le_refl _
  | @step n c c' c'' s _ ih =>
    obtain ⟨i, p⟩ := c; obtain ⟨j, q⟩ := c'
    rcases stp_iff.1 s with ⟨rfl, _⟩ | ⟨rfl, _⟩ <;> simp only at ih ⊢ <;> omega
theorem run_same {p : Nat} : ∀ {n i j : Nat}, RunN m w n (i, p) (j, p) → EpsS m w.length p i j := by
  intro n
  induction n with
  | zero => intro i j h; cases h; exact .refl
  | succ n ih =>
    intro i j h
    cases h with
    | step s r =>
      rename_i c
      obtain ⟨k, q⟩ := c
      rcases stp_iff.1 s with ⟨rfl, e⟩ | ⟨rfl, _⟩
      · exact .head e (ih r)
      · have := runN_le r; simp only at this; omega
theorem run_base {p i j : Nat} : Run m w (i, p) (j, p) ↔ EpsS m w.length p i j := ⟨fun ⟨_, h⟩ => run_same h, EpsS.run⟩
theorem run_succ {a f p i : Nat} (hf : f ≤ p) : Run m w (a, f) (i, p + 1) ↔ ∃ j, Run m w (a, f) (j, p) ∧ Eat m w j p ∧ EpsS m w.length (p + 1) (j + 1) i := by
  constructor
  · rintro ⟨n, h⟩
    induction n generalizing a f with
    | zero => cases h; omega
    | succ n ih =>
      cases h with
      | step s r =>
        rename_i c
        obtain ⟨k, q⟩ := c
        rcases stp_iff.1 s with ⟨rfl, e⟩ | ⟨rfl, rfl, he⟩
        · obtain ⟨j, h1, h2, h3⟩ := ih hf r
          exact ⟨j, .cons s h1, h2, h3⟩
        · rcases Nat.lt_or_ge f p with hlt | hge
          · obtain ⟨j, h1, h2, h3⟩ := ih hlt r
            exact ⟨j, .cons s h1, h2, h3⟩
          · obtain rfl : f = p := by omega
            exact ⟨a, .refl, he, run_same r⟩
  · rintro ⟨j, h1, h2, h3⟩
    exact h1.trans (.cons (stp_iff.2 (.inr ⟨rfl, rfl, h2⟩)) h3.run)
def Hit (m : List In) (w : List UInt8) (f p : Nat) : Prop := ∃ i t, Run m w (0, f) (i, p) ∧ m[i]? = some t ∧ t.op = 6
def InOk (E : Nat) (t : In) : Prop := (1 ≤ t.op ∧ t.op ≤ 6) ∧ (t.op = 1 ∨ t.set = 0) ∧ (0 ≤ t.x ∧ t.x ≤ (if t.op = 4 ∨ t.op = 5 then (E : Int) else 0)) ∧ (0 ≤ t.y ∧ t.y ≤ (if t.op = 5 then (E : Int) else 0))
instance (E : Nat) (t : In) : Decidable (InOk E t) := by unfold InOk; infer_instance
def MOk (m : List In) : Prop := 1 ≤ m.length ∧ m.length ≤ 65540 ∧ ∀ i t, m[i]? = some t → InOk (m.length - 1) t ∧ (t.op ≤ 3 → i + 1 < m.length)
theorem MOk.lt {i j p n : Nat} (h : MOk m) (he : Eps m n p i j) : j < m.length := by
  obtain ⟨t, ht, h1⟩ := he
  obtain ⟨⟨⟨_, _⟩, _, hx, hy⟩, h3⟩ := h.2.2 i t ht
  have := h.1
  rcases h1 with ⟨ho, _, rfl⟩ | ⟨ho, _, rfl⟩ | ⟨ho, e⟩ | ⟨ho, e | e⟩
  · exact h3 (by omega)
  · exact h3 (by omega)
  · rw [if_pos (.inl ho)] at hx; omega
  · rw [if_pos (.inr ho)] at hx; omega
  · rw [if_pos ho] at hy; omega
theorem ok_mk {E : Nat} {o : Int} {s : Cl} {x y : Int} (h1 : 1 ≤ o) (h2 : o ≤ 6) (h3 : o = 1 ∨ s = 0) (h4 : 0 ≤ x) (h5 : x ≤ if o = 4 ∨ o = 5 then (E : Int) else 0) (h6 : 0 ≤ y) (h7 : y ≤ if o = 5 then (E : Int) else 0) : InOk E ⟨o, s, x, y⟩ := ⟨⟨h1, h2⟩, h3, ⟨h4, h5⟩, ⟨h6, h7⟩⟩
def CodeOk (E : Nat) (c : List In) : Prop := ∀ t ∈ c, InOk E t ∧ t.op ≤ 5
theorem CodeOk.app {E : Nat} {c d : List In} (h : CodeOk E c) (h' : CodeOk E d) : CodeOk E (c ++ d) := fun t ht => (List.mem_append.1 ht).elim (h t) (h' t)
theorem CodeOk.cons {E : Nat} {t : In} {d : List In} (h : InOk E t ∧ t.op ≤ 5) (h' : CodeOk E d) : CodeOk E (t :: d) := fun u hu => by
  rcases List.mem_cons.1 hu with rfl | hu
  · exact h
  · exact h' u hu
theorem CodeOk.nil {E : Nat} : CodeOk E [] := fun t ht => by cases ht
theorem ok_split {E x y : Nat} (hx : x ≤ E) (hy : y ≤ E) : InOk E ⟨5, 0, x, y⟩ ∧ (5 : Int) ≤ 5 :=
  ⟨ok_mk (by decide) (by decide) (.inr rfl) (by omega) (by simp; omega) (by omega) (by simp; omega), by decide⟩
theorem ok_jump {E x : Nat} (hx : x ≤ E) : InOk E ⟨4, 0, x, 0⟩ ∧ (4 : Int) ≤ 5 :=
  ⟨ok_mk (by decide) (by decide) (.inr rfl) (by omega) (by simp; omega) (by decide) (by split <;> omega), by decide⟩
theorem ok_leaf {E : Nat} {o : Int} {s : Cl} (h1 : 1 ≤ o) (h2 : o ≤ 3) (h3 : o = 1 ∨ s = 0) : InOk E ⟨o, s, 0, 0⟩ ∧ o ≤ 5 :=
  ⟨ok_mk h1 (by omega) h3 (by decide) (by split <;> omega) (by decide) (by split <;> omega), by omega⟩
theorem copies_ok {E : Nat} {c : Nat → List In} {L : Nat} (h : ∀ b, b + L ≤ E → CodeOk E (c b)) : ∀ k b, b + k * L ≤ E → CodeOk E (copies c L k b)
  | 0, b, _ => .nil
  | k + 1, b, hb => by
    rw [Nat.succ_mul] at hb
    exact (h b (by omega)).app (copies_ok h k (b + L) (by omega))
theorem opts_ok {E e : Nat} {c : Nat → List In} {L : Nat} (h : ∀ b, b + L ≤ E → CodeOk E (c b)) (he : e ≤ E) : ∀ k b, b + k * (L + 1) ≤ E → CodeOk E (opts c L e k b)
  | 0, b, _ => .nil
  | k + 1, b, hb => by
    rw [Nat.succ_mul] at hb
    exact .cons (ok_split (by omega) he) ((h (b + 1) (by omega)).app (opts_ok h he k (b + 1 + L) (by omega)))
theorem oneC_ok {E : Nat} {x : Nd} {c a : Nat → List In} {L A b : Nat} (_hx : ndOk x = true) (hc : ∀ b, b + L ≤ E → CodeOk E (c b)) (ha : ∀ b, b + A ≤ E → CodeOk E (a b)) (hb : b + lenOne x L A ≤ E) : CodeOk E (oneC x c a L b) := by
  unfold oneC
  unfold lenOne at hb
  by_cases h1 : x.op = 1
  · rw [if_pos h1]
    exact .cons (ok_leaf (by decide) (by decide) (.inl rfl)) .nil
  rw [if_neg h1]
  by_cases h2 : x.op = 2
  · rw [if_pos h2]
    exact .cons (ok_leaf (by decide) (by decide) (.inr rfl)) .nil
  rw [if_neg h2]
  by_cases h3 : x.op = 3
  · rw [if_pos h3]
    exact .cons (ok_leaf (by decide) (by decide) (.inr rfl)) .nil
  rw [if_neg h3]
  rw [if_neg (by omega)] at hb
  by_cases h5 : x.op = 5
  · rw [if_pos h5] at hb ⊢
    exact ha b hb
  rw [if_neg h5] at hb ⊢
  by_cases h6 : x.op = 6
  · rw [if_pos h6] at hb ⊢
    unfold repC
    by_cases hm : x.mx = -1
    · rw [if_pos hm] at hb
      simp only [hm, if_true]
      exact (copies_ok hc _ _ (by omega)).app (.cons (ok_split (by omega) (by omega)) ((hc _ (by omega)).app (.cons (ok_jump (by omega)) .nil)))
    · rw [if_neg hm] at hb
      simp only [hm, if_false]
      exact (copies_ok hc _ _ (by omega)).app (opts_ok hc (by omega) _ _ (by omega))
  · rw [if_neg h6] at hb ⊢
    exact hc b hb
theorem code_ok {E : Nat} : ∀ (f : F) (md : Bool) (b e : Nat), f.wf → b + lenM f md ≤ E → e ≤ E → CodeOk E (code f md b e)
  | .nil, _, _, _, _, _, _ => .nil
  | .nd x ks r, md, b, e, hw, hb, he => by
    have hc : ∀ b, b + lenM ks false ≤ E → CodeOk E (code ks false b 0) := fun b hb => code_ok ks false b 0 hw.2.2.1 hb (by omega)
    have ha : ∀ b, b + lenM ks true ≤ E → CodeOk E (code ks true b (b + lenM ks true)) := fun b hb => code_ok ks true b _ hw.2.2.1 hb hb
    cases md with
    | false =>
      simp only [lenM, Bool.false_eq_true, if_false] at hb
      simp only [code, Bool.false_eq_true, if_false]
      exact (oneC_ok hw.1 hc ha (by omega)).app (code_ok r false _ 0 hw.2.2.2 (by omega) (by omega))
    | true =>
      cases r with
      | nil =>
        simp only [lenM, if_true] at hb
        simp only [code, if_true]
        exact oneC_ok hw.1 hc ha (by omega)
      | nd y ks' r' =>
        have hL : lenM (.nd x ks (.nd y ks' r')) true = lenOne x (lenM ks false) (lenM ks true) + 2 + lenM (.nd y ks' r') true := rfl
        rw [hL] at hb
        show CodeOk E (⟨5, 0, (b + 1 : Nat), (b + lenOne x (lenM ks false) (lenM ks true) + 2 : Nat)⟩ :: (oneC x (fun b => code ks false b 0) (fun b => code ks true b (b + lenM ks true)) (lenM ks false) (b + 1) ++ (⟨4, 0, e, 0⟩ :: code (.nd y ks' r') true (b + lenOne x (lenM ks false) (lenM ks true) + 2) e)))
        exact .cons (ok_split (by omega) (by omega)) ((oneC_ok hw.1 hc ha (by omega)).app (.cons (ok_jump he) (code_ok (.nd y ks' r') true _ e hw.2.2.2 (by omega) he)))
theorem one_len {x : Nd} {L A W k : Nat} (hx : ndOk x = true) (hL : L + 3 * k ≤ 4 * W) (hA : A + k + 2 ≤ 4 * W ∨ k = 0) (hk : x.kids = (k : Int)) : lenOne x L A + 3 ≤ 4 * (1 + times x * W) := by
  unfold lenOne times
  by_cases h1 : x.op = 1 ∨ x.op = 2 ∨ x.op = 3
  · rw [if_pos h1]; omega
  rw [if_neg h1]
  by_cases h5 : x.op = 5
  · have := alt_kids hx h5
    rw [if_pos h5, if_neg (by omega)]; omega
  rw [if_neg h5]
  by_cases h6 : x.op = 6
  · have hr := rep_flds hx h6
    have hk1 : k = 1 := by
      simp only [ndOk, Bool.and_eq_true, kidsOk] at hx
      have h := hx.2
      rw [if_pos (.inl h6)] at h
      simp at h; omega
    subst hk1
    rw [if_pos h6, if_pos h6]
    by_cases hm : x.mx = -1
    · rw [if_pos hm, if_pos (by omega)]
      have : (x.mn.toNat + 1) * L + (x.mn.toNat + 1) * 3 ≤ 4 * ((x.mn.toNat + 1) * W) := by
        have := Nat.mul_le_mul_left (x.mn.toNat + 1) hL
        rw [Nat.mul_add] at this
        rw [← Nat.mul_assoc, Nat.mul_comm 4, Nat.mul_assoc]; omega
      rw [Nat.succ_mul] at this
      omega
    · rw [if_neg hm, if_neg (by omega)]
      have h1 : x.mn.toNat * L + (x.mx - x.mn).toNat * (L + 1) ≤ x.mx.toNat * (L + 1) := by
        have : x.mx.toNat = x.mn.toNat + (x.mx - x.mn).toNat := by omega
        rw [this, Nat.add_mul]
        have := Nat.mul_le_mul_left x.mn.toNat (show L ≤ L + 1 by omega)
        omega
      have h2 : x.mx.toNat * (L + 1) ≤ max x.mx.toNat 1 * (4 * W) := Nat.mul_le_mul (Nat.le_max_left _ _) (by omega)
      have h3 : max x.mx.toNat 1 * (4 * W) = 4 * (max x.mx.toNat 1 * W) := by rw [Nat.mul_left_comm]
      omega
  · rw [if_neg h6, if_neg h6]; omega
theorem code_weight : ∀ (f : F), f.wf → lenM f false + 3 * f.num ≤ 4 * f.weight ∧ (lenM f true + f.num + 2 ≤ 4 * f.weight ∨ f.num = 0)
  | .nil, _ => by simp [lenM, F.num, F.weight]
  | .nd x ks r, hw => by
    obtain ⟨h1, h2⟩ := code_weight ks hw.2.2.1
    obtain ⟨h3, h4⟩ := code_weight r hw.2.2.2
    have h5 := one_len hw.1 h1 h2 hw.2.1.symm
    constructor
    · simp only [lenM, Bool.false_eq_true, if_false, F.num, F.weight]; omega
    · left
      cases r with
      | nil => simp only [lenM, if_true, F.num, F.weight]; omega
      | nd y ks' r' =>
        have hL : lenM (.nd x ks (.nd y ks' r')) true = lenOne x (lenM ks false) (lenM ks true) + 2 + lenM (.nd y ks' r') true := rfl
        have h4 := h4.resolve_right (by simp [F.num])
        rw [hL]
        simp only [F.num, F.weight] at h4 ⊢
        omega
def mach (f : F) : List In := code f false 0 0 ++ [⟨6, 0, 0, 0⟩]
theorem mach_len (f : F) : (mach f).length = lenM f false + 1 := by simp [mach, code_len]
theorem mach_ok {f : F} (hw : f.wf) (hW : f.weight ≤ 16384) : MOk (mach f) := by
  have h1 := (code_weight f hw).1
  refine ⟨by rw [mach_len]; omega, by rw [mach_len]; omega, fun i t hi => ?_⟩
  have hl := (List.getElem?_eq_some_iff.1 hi).1
  rw [mach_len] at hl ⊢
  rw [Nat.add_sub_cancel]
  unfold mach at hi
  rcases Nat.lt_or_ge i (code f false 0 0).length with h | h
  · rw [List.getElem?_append_left h] at hi
    have := code_ok (E := lenM f false) f false 0 0 hw (by omega) (by omega) t (List.mem_of_getElem? hi)
    rw [code_len] at h
    exact ⟨this.1, fun _ => by omega⟩
  · rw [List.getElem?_append_right h] at hi
    rw [code_len] at h
    have : i - (code f false 0 0).length = 0 := by rw [code_len]; omega
    rw [this] at hi
    simp at hi
    subst hi
    exact ⟨⟨⟨by decide, by decide⟩, .inr rfl, ⟨by decide, by simp⟩, ⟨by decide, by simp⟩⟩, fun h => by simp at h⟩
theorem mach_hit {f : F} (hw : f.wf) {w : List UInt8} {p q : Nat} : Hit (mach f) w p q ↔ der w f false p q := by
  rw [← means_all hw]
  constructor
  · rintro ⟨i, t, hr, ht, ho⟩
    have hl := (List.getElem?_eq_some_iff.1 ht).1
    rw [mach_len] at hl
    have hi : i = lenM f false := by
      rcases Nat.lt_or_ge i (lenM f false) with h | h
      · unfold mach at ht
        rw [List.getElem?_append_left (by rw [code_len]; exact h)] at ht
        have := code_ok (E := lenM f false) f false 0 0 hw (by omega) (by omega) t (List.mem_of_getElem? ht)
        omega
      · omega
    subst hi
    exact hr
  · intro h
    refine ⟨_, ⟨6, 0, 0, 0⟩, h, ?_, rfl⟩
    unfold mach
    rw [List.getElem?_append_right (by rw [code_len]; omega), code_len]; simp
end Go.HL.Kl.Mc
namespace Go.HL.Kl.Mc
open Go Go.HL Go.HL.Kl
structure IsS (l : List Bool) (N : Nat) (S : Nat → Prop) : Prop where
  len : l.length = N + 1
  get : ∀ p, p ≤ N → (l[p]? = some true ↔ S p)
def img (D : Nat → Nat → Prop) (S : Nat → Prop) (q : Nat) : Prop := ∃ p, S p ∧ D p q
def Inn (N : Nat) (D : Nat → Nat → Prop) : Prop := ∀ p q, p ≤ N → D p q → q ≤ N
def der1 (w : List UInt8) (x : Nd) (ks : F) (p q : Nat) : Prop := der w (.nd x ks .nil) false p q
theorem der1_def {w : List UInt8} {x : Nd} {ks : F} {p q : Nat} : der1 w x ks p q ↔
    (if x.op = 1 then q = p + 1 ∧ ∃ b, w[p]? = some b ∧ x.set.getLsbD b.toNat = true
      else if x.op = 2 then p = 0 ∧ q = 0
      else if x.op = 3 then p = w.length ∧ q = p
      else if x.op = 5 then der w ks true p q
      else if x.op = 6 then rounds x (der w ks false) p q
      else der w ks false p q) := by
  unfold der1
  rw [der]
  simp [der]
theorem der_cat {w : List UInt8} {x : Nd} {ks r : F} {p q : Nat} : der w (.nd x ks r) false p q ↔ ∃ t, der1 w x ks p t ∧ der w r false t q := by
  conv => lhs; rw [der]
  simp only [Bool.false_eq_true, if_false, der1_def]
theorem der_alt {w : List UInt8} {x : Nd} {ks r : F} {p q : Nat} : der w (.nd x ks r) true p q ↔ der1 w x ks p q ∨ der w r true p q := by
  conv => lhs; rw [der]
  simp only [if_true, der1_def]
theorem der_nil {w : List UInt8} {p q : Nat} : der w .nil false p q ↔ p = q := by simp [der]
theorem der_nil' {w : List UInt8} {p q : Nat} : der w .nil true p q ↔ False := by simp [der]
def upTo (D : Nat → Nat → Prop) (S : Nat → Prop) (mn k q : Nat) : Prop := ∃ j, mn ≤ j ∧ j ≤ k ∧ img (pow D j) S q
section
variable {P : Program} {κ : Cx} {L : Loc} {H : Hp} {ty t t' : TypeId} {x y : Operand}
theorem fq_cls {w : World} {n e b e1 b1 : Nat} {k' : IntKind} {xs ys : Array Value} {l : List (Nat × Nat)} {c d : Kl.Cl} {r : Bool} [TU P e (.array 4 e1)] [TG P e false] [TI P e 4 b] [TU P e1 (.int k')] [TG P e1 true] [TI P e1 1 b1]
    (hx : xs.extract 1 5 = (Ec c).toArray) (hy : ys.extract 1 5 = (Ec d).toArray) (h : FQ P w (n + 1) xs ys l r) : FQ P w (n + 1) xs ys ((e, 1) :: l) (decide (c = d) && r) := by
  refine .cons (part_agg hx) (part_agg hy) ?_ h
  have := re_arr (P := P) (t := e) w n (j := .u64) (Ic c) (Ic d) (Ic_len c) (Ic_len d)
  rw [← Ec_ints, ← Ec_ints] at this
  rw [this]
  congr 1
  exact decide_eq_decide.2 Ic_inj
theorem nd_fq {a c i e b be : Nat} {k1 k2 ke : IntKind} [TU P a (.int k1)] [TG P a true] [TU P i (.int k2)] [TG P i true] [TU P c (.array 4 e)] [TG P c false] [TI P c 4 b] [TU P e (.int ke)] [TG P e true] [TI P e 1 be] (w : World) (p q : Nd) : FQ P w 9998 (En p).toArray (En q).toArray [(a, 0), (c, 1), (i, 5), (i, 6), (i, 7), (i, 8)] (decide (p = q)) := by
  have h : FQ P w 9998 (En p).toArray (En q).toArray [(a, 0), (c, 1), (i, 5), (i, 6), (i, 7), (i, 8)] _ :=
    .int (j := .i8) (p := p.op) (q := q.op) rfl rfl (fq_cls (c := p.set) (d := q.set) rfl rfl (.int (j := .i64) (p := p.n) (q := q.n) rfl rfl (.int (j := .i64) (p := p.mn) (q := q.mn) rfl rfl (.int (j := .i64) (p := p.mx) (q := q.mx) rfl rfl (.int (j := .i64) (p := p.kids) (q := q.kids) rfl rfl .nil)))))
  have e : (p.op == q.op && (decide (p.set = q.set) && (p.n == q.n && (p.mn == q.mn && (p.mx == q.mx && (p.kids == q.kids && true)))))) = decide (p = q) := by
    cases p; cases q
    simp only [Nd.mk.injEq, Bool.and_true]
    rw [Bool.eq_iff_iff]
    simp
  rw [← e]; exact h
theorem s_neq_nd {a c i e b be : Nat} {k1 k2 ke : IntKind} [EG P t] [TU P a (.int k1)] [TG P a true] [TU P i (.int k2)] [TG P i true] [TU P c (.array 4 e)] [TG P c false] [TI P c 4 b] [TU P e (.int ke)] [TG P e true] [TI P e 1 be] [Go.HL.TQ P t [(a, 0), (c, 1), (i, 5), (i, 6), (i, 7), (i, 8)]] {p q : Nd} (hx : ev L x = some (.agg (En p).toArray)) (hy : ev L y = some (.agg (En q).toArray)) : Step P κ (.binOp .neq t x y t') ty L H (.bool (!decide (p = q))) :=
  s_neq_st hx hy fun w => nd_fq w p q
theorem in_fq {a c i e b be : Nat} {k1 k2 ke : IntKind} [TU P a (.int k1)] [TG P a true] [TU P i (.int k2)] [TG P i true] [TU P c (.array 4 e)] [TG P c false] [TI P c 4 b] [TU P e (.int ke)] [TG P e true] [TI P e 1 be] (w : World) (p q : In) : FQ P w 9998 (Ein p).toArray (Ein q).toArray [(a, 0), (c, 1), (i, 5), (i, 6)] (decide (p = q)) := by
  have h : FQ P w 9998 (Ein p).toArray (Ein q).toArray [(a, 0), (c, 1), (i, 5), (i, 6)] _ :=
    .int (j := .i8) (p := p.op) (q := q.op) rfl rfl (fq_cls (c := p.set) (d := q.set) rfl rfl (.int (j := .i64) (p := p.x) (q := q.x) rfl rfl (.int (j := .i64) (p := p.y) (q := q.y) rfl rfl .nil)))
  have e : (p.op == q.op && (decide (p.set = q.set) && (p.x == q.x && (p.y == q.y && true)))) = decide (p = q) := by
    cases p; cases q
    simp only [In.mk.injEq, Bool.and_true]
    rw [Bool.eq_iff_iff]
    simp
  rw [← e]; exact h
theorem s_neq_in {a c i e b be : Nat} {k1 k2 ke : IntKind} [EG P t] [TU P a (.int k1)] [TG P a true] [TU P i (.int k2)] [TG P i true] [TU P c (.array 4 e)] [TG P c false] [TI P c 4 b] [TU P e (.int ke)] [TG P e true] [TI P e 1 be] [Go.HL.TQ P t [(a, 0), (c, 1), (i, 5), (i, 6)]] {p q : In} (hx : ev L x = some (.agg (Ein p).toArray)) (hy : ev L y = some (.agg (Ein q).toArray)) : Step P κ (.binOp .neq t x y t') ty L H (.bool (!decide (p = q))) :=
  s_neq_st hx hy fun w => in_fq w p q
end
end Go.HL.Kl.Mc
