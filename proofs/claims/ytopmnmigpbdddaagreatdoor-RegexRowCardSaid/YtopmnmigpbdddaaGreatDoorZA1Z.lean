/- Part of the proofs over this seat: see the text that holds the theorem. Conditions: each theorem bears its own. -/
import Derived.Test.YtopmnmigpbdddaaGreatDoorHTZ
import Derived.Test.YtopmnmigpbdddaaGreatDoorZV7Z
import Derived.Test.YtopmnmigpbdddaaGreatDoorMT8Z
import Derived.Test.YtopmnmigpbdddaaGreatDoorMT3Z
import Derived.Test.YtopmnmigpbdddaaGreatDoorHMZ
import Derived.Test.YtopmnmigpbdddaaGreatDoorMK3Z
namespace Go.Proofs.YtopmnmigpbdddaaGreatDoor
open Go Go.HL Go.Proofs Go.HL.Kl Go.HL.Kl.Mc Go.HL.Kl.Mc.AskE
theorem BSome.uniq {w : List UInt8} {x : Nd} {ks : F} {c0 : Caps} {p i j i' j' : Nat} {c c' : Caps} (h : BSome w x ks c0 p i j c) (h' : BSome w x ks c0 p i' j' c') : i = i' ∧ j = j' ∧ c = c' := by
  have ne : ∀ {l : List Caps} {d : Caps}, l.head? = some d → l ≠ [] := fun h e => by rw [e] at h; cases h
  have h1 : i = i' := by
    rcases Nat.lt_trichotomy i i' with hlt | he | hlt
    · exact absurd (h'.fst i j h.lo hlt h.ij h.hi) (ne h.hd)
    · exact he
    · exact absurd (h.fst i' j' h'.lo hlt h'.ij h'.hi) (ne h'.hd)
  subst h1
  have h2 : j = j' := by
    rcases Nat.lt_trichotomy j j' with hlt | he | hlt
    · exact absurd (h.lng j' hlt h'.hi) (ne h'.hd)
    · exact he
    · exact absurd (h'.lng j hlt h.hi) (ne h.hd)
  subst h2
  exact ⟨rfl, rfl, Option.some.inj (h.hd.symm.trans h'.hd)⟩
theorem BSome.not_none {w : List UInt8} {x : Nd} {ks : F} {c0 : Caps} {p i j : Nat} {c : Caps} (h : BSome w x ks c0 p i j c) : ¬ BNone w x ks c0 p := fun hn => by
  have h1 := h.hd
  rw [hn i j h.lo h.ij h.hi] at h1; cases h1
def BkRes (re : List Nd) (w : List UInt8) (f : Int) (b : Bool) (L : List Sp) : Prop :=
  (¬ (0 ≤ f ∧ f ≤ w.length) ∧ b = false ∧ L = []) ∨ ∃ (m : Nat) (x : Nd) (ks : F), f = m ∧ m ≤ w.length ∧ Shp re x ks ∧ ((BNone w x ks (C0 re) m ∧ b = false ∧ L = []) ∨ ∃ (i j : Nat) (c : Caps), BSome w x ks (C0 re) m i j c ∧ b = true ∧ L = ⟨(i : Nat), (j : Nat)⟩ :: c)
theorem BkRes.uniq {re : List Nd} {w : List UInt8} {f : Int} {b b' : Bool} {L L' : List Sp} (h : BkRes re w f b L) (h' : BkRes re w f b' L') : b = b' ∧ L = L' := by
  rcases h with ⟨h1, rfl, rfl⟩ | ⟨m, x, ks, rfl, hm, hS, h⟩
  · rcases h' with ⟨_, rfl, rfl⟩ | ⟨m, x, ks, rfl, hm, _, _⟩
    · exact ⟨rfl, rfl⟩
    · exact absurd ⟨by omega, by omega⟩ h1
  · rcases h' with ⟨h1, _, _⟩ | ⟨m', x', ks', he, hm', hS', h'⟩
    · exact absurd ⟨by omega, by omega⟩ h1
    · obtain rfl : m = m' := by omega
      obtain ⟨rfl, rfl⟩ := hS.uniq hS'
      rcases h with ⟨a1, rfl, rfl⟩ | ⟨i, j, c, a1, rfl, rfl⟩
      · rcases h' with ⟨_, rfl, rfl⟩ | ⟨i', j', c', a2, rfl, rfl⟩
        · exact ⟨rfl, rfl⟩
        · exact absurd a1 a2.not_none
      · rcases h' with ⟨a2, rfl, rfl⟩ | ⟨i', j', c', a2, rfl, rfl⟩
        · exact absurd a2 a1.not_none
        · obtain ⟨rfl, rfl, rfl⟩ := a1.uniq a2
          exact ⟨rfl, rfl⟩
theorem BkRes.none {re : List Nd} {w : List UInt8} {f : Int} {L : List Sp} (h : BkRes re w f false L) : L = [] := by
  rcases h with ⟨_, _, h⟩ | ⟨_, _, _, _, _, _, ⟨_, _, h⟩ | ⟨_, _, _, _, h, _⟩⟩
  · exact h
  · exact h
  · cases h
theorem BkRes.good {re : List Nd} {w : List UInt8} {f : Nat} {L : List Sp} (hl : re.length ≤ 1000000) (h : BkRes re w (f : Int) true L) : (∃ p q, GoodL w.length f L p q) ∧ L.length = gcn re + 1 := by
  have hg : gcn re ≤ re.length := List.countP_le_length
  rcases h with ⟨_, h, _⟩ | ⟨m, x, ks, he, hm, _, ⟨_, h, _⟩ | ⟨i, j, c, a1, _, rfl⟩⟩
  · cases h
  · cases h
  · obtain rfl : f = m := by omega
    have hcl : c.length = gcn re := by rw [a1.len, C0, List.length_replicate]
    exact ⟨⟨i, j, rfl, a1.lo, a1.ij, a1.hi, fun s hs => (List.mem_cons.1 hs).elim (fun e => by rw [e]; exact .inr ⟨by dsimp only; omega, by dsimp only; have := a1.ij; omega, by dsimp only; have := a1.hi; omega⟩) (a1.ok s), by rw [List.length_cons]; omega⟩, by rw [List.length_cons, hcl]⟩
theorem BkP.res {re : List Nd} {w : List UInt8} {p : Int} {v : Value} {S' : Hp} (hs : shapedB re = true) (h : BkP re w p v S') : ∃ b L a c e, v = .tuple #[.slice a L.length c, .bool b, e] ∧ OwnS Esp 2 40 (.slice a L.length c) L S' ∧ BkRes re w p b L := by
  rcases h with ⟨h, _⟩ | ⟨_, h1, hv, hS⟩ | ⟨_, m, hp, hm, x, ks, hS, h⟩
  · rw [hs] at h; cases h
  · subst hS; exact ⟨false, [], none, 0, _, hv, .nil, .inl ⟨h1, rfl, rfl⟩⟩
  · rcases h with ⟨hn, hv, hS'⟩ | ⟨i, j, c, a, cc, hB, hv, hO⟩
    · subst hS'; exact ⟨false, [], none, 0, _, hv, .nil, .inr ⟨m, x, ks, hp, hm, hS, .inl ⟨hn, rfl, rfl⟩⟩⟩
    · have hcl : ((⟨(i : Nat), (j : Nat)⟩ : Sp) :: c).length = gcn re + 1 := by rw [List.length_cons, hB.len, C0, List.length_replicate]
      exact ⟨true, _, a, cc, _, by rw [hcl]; exact hv, by rw [hcl]; exact hO, .inr ⟨m, x, ks, hp, hm, hS, .inr ⟨i, j, c, hB, rfl, rfl⟩⟩⟩
theorem squaredV_fn (m : Nat) (n : Int) : HL.Fn Tryz.prog 108 [.int .i64 m, .int .i64 n] (fun _ => True) [] (fun v _ => ∃ b : Bool, v = .bool b ∧ (b = false → n ≤ 400)) := by
  refine fn_of Tryz.func108 rfl rfl rfl fun w0 hw => ?_; refine cR fun _ hK1 => ?_; refine oA (oZ hK1 (cR fun _ hK2 => ?_)); refine oM ?_
  by_cases hn4 : n > 400
  ·refine oS gtT (oM ?_); refine oN ?_; refine oN ?_; refine oN ?_; refine oU ?_; refine oU ?_; refine oU ?_; refine oU ?_; refine oU ?_; refine oU ?_; refine oU ?_; refine oU ?_; refine oN ?_; refine oS sT (oA (oZ hK2 (c_ret ?_))); refine ?_; exact xR rfl rfl (⟨_, rfl, fun h => (by cases h)⟩)
  ·refine oS gtF (oM ?_); refine oY (oM ?_); refine oY ?_
   by_cases hn0 : n ≥ 0
   ·obtain ⟨k, rfl⟩ : ∃ k : Nat, n = k := ⟨n.toNat, by omega⟩
    have hq0 : (0 : Int) < ((k : Int) + 1) * ((k : Int) + 1) := Int.mul_pos (by omega) (by omega)
    have hq1 : ((k : Int) + 1) * ((k : Int) + 1) ≤ 401 * 401 := Int.mul_le_mul (by omega) (by omega) (by omega) (by omega)
    refine oS geT ?_; refine oY (oM ?_); refine oY (oM ?_); refine oY (oM ?_); refine oY ?_; refine oS sD ?_; refine oY (oM ?_); refine oY ?_; refine oS sD ?_; refine oY ?_; refine oS (s_mul rfl rfl (by omega)) ?_; refine oY ?_; refine oS (s_quo rfl rfl (by omega)) ?_; refine oY ?_; refine oS (s_gtr rfl rfl) ?_; refine oY ?_; refine oS sT ?_; refine oS sP (oA (oZ hK2 (c_ret ?_))); refine ?_; exact xR rfl rfl (⟨_, rfl, fun _ => by omega⟩)
   ·refine oS geF ?_; refine oY (oM ?_); refine oN ?_; refine oN ?_; refine oN ?_; refine oN ?_; refine oN ?_; refine oN ?_; refine oN ?_; refine oN ?_; refine oY ?_; refine oS sP ?_; refine oS sP (oA (oZ hK2 (c_ret ?_))); refine ?_; exact xR rfl rfl (⟨_, rfl, fun _ => by omega⟩)
theorem heavyV_fn (ra : Option Addr) (rc : Nat) (re : List Nd) (hre : ∀ x ∈ re, -128 ≤ x.op ∧ x.op < 128) (n : Nat) : HL.Fn Tryz.prog 55 [.slice ra re.length rc, .int .i64 n] (fun W => Rd En W (.slice ra re.length rc) re) [] (fun v _ => ∃ b : Bool, v = .bool b ∧ (b = false → shapedB re = true → n ≤ 400 ∧ (refsB re = true → Fits re n))) := by
  refine fn_of Tryz.func55 rfl rfl rfl fun w0 hw => ?_; refine cR fun _ hK1 => ?_; refine oA (oZ hK1 (c_seq fun _ hK2 => ?_)); refine cR fun _ hK3 => ?_; refine oM ?_; refine o_callP (rShaped_fn ra rc re hre) rfl rfl rfl (fun _ st => (RdK.old0 hw).out _ st) (fun v6 hv6 => ?_); subst hv6
  cases hsb : shapedB re
  ·refine oS (s_not rfl) ?_; refine oM ?_; refine oN ?_; refine oN ?_; refine oS sT (oZ hK3 ?_); refine cT (cR fun _ hK4 => ?_); refine oA (oZ hK4 (c_ret ?_)); refine x_then_ret (?_); exact xR rfl rfl (⟨_, rfl, fun _ h => (by rw [hsb] at h; cases h)⟩)
  ·refine oS (s_not rfl) ?_; refine oM ?_; refine oY (oM ?_); refine oY ?_; refine oS lsF ?_; refine oS sP (oZ hK3 ?_); refine cFZ hK2 (c_seq fun _ hK5 => ?_); refine cR fun _ hK6 => ?_; refine oM ?_; refine o_callP (rRefs_fn ra rc re hre) rfl rfl rfl (fun _ st => (RdK.old0 hw).out _ st) (fun v13 hv13 => ?_); subst hv13
   cases hrb : refsB re
   ·refine oZ hK6 ?_; refine cFZ hK5 (cR fun _ hK7 => ?_); refine oM ?_; refine o_callP (rWeight_fn ra rc re hre) rfl rfl rfl (fun _ st => (RdK.old0 hw).out _ st) (fun v18 hv18 => ?_)
    obtain ⟨m, hm, rfl⟩ := hv18
    refine oM ?_; refine o_callP (squaredV_fn m n) rfl rfl rfl (fun _ _ => trivial) (fun v20 ⟨b, hv20, hF⟩ => ?_); subst hv20
    refine oA (oZ hK7 (c_ret ?_)); refine ?_; exact xR rfl rfl (⟨_, rfl, fun hb hs => ⟨by have := hF hb; omega, fun h => (by rw [hrb] at h; cases h)⟩⟩)
   ·refine oZ hK6 ?_; refine cT (cR fun _ hK8 => ?_); refine oM (oM ?_); refine o_callP (costlyV_fn ra rc re hre n) rfl rfl rfl (fun _ st => (RdK.old0 hw).out _ st) (fun v16 ⟨b, hv16, hF⟩ => ?_); subst hv16
    refine oA (oZ hK8 (c_ret ?_)); refine x_then_ret (?_); exact xR rfl rfl (⟨_, rfl, fun hb hs => ⟨by have := (hF hb hs (by omega)) n rfl; omega, fun _ => hF hb hs (by omega)⟩⟩)
theorem heavy12V_fn (ra : Option Addr) (rc : Nat) (re : List Nd) (hre : ∀ x ∈ re, -128 ≤ x.op ∧ x.op < 128)  (ta : Option Addr) (tc : Nat) (w : List UInt8) : HL.Fn Tryz.prog 9 [.slice ra re.length rc, .slice ta w.length tc] (fun W => Rd En W (.slice ra re.length rc) re) [] (fun v _ => ∃ b : Bool, v = .bool b ∧ (b = false → shapedB re = true → w.length ≤ 400 ∧ (refsB re = true → Fits re w.length))) := by
  refine fn_of Tryz.func9 rfl rfl rfl fun w0 hw => ?_; refine cR fun _ hK1 => ?_; refine oA (oZ hK1 (cR fun _ hK2 => ?_)); refine oM (oM ?_); refine o_callP (long12_fn ra rc re hre ta tc w) rfl rfl rfl (fun _ st => (RdK.old0 hw).out _ st) (fun v7 hv7 => ?_)
  obtain ⟨c7, rfl⟩ := hv7
  cases c7
  ·refine oM ?_; refine oY (oM ?_); refine oY (oM ?_); refine oY ?_; refine oS sC ?_; refine oY ?_; refine o_callP (heavyV_fn ra rc re hre w.length) rfl rfl rfl (fun _ st => (RdK.old0 hw).out _ st) (fun v12 ⟨b, hv12, hF⟩ => ?_); subst hv12
   refine oS sP (oA (oZ hK2 (c_ret ?_))); refine ?_; exact xR rfl rfl (⟨_, rfl, hF⟩)
  ·refine oM ?_; refine oN ?_; refine oN ?_; refine oN ?_; refine oN ?_; refine oS sT (oA (oZ hK2 (c_ret ?_))); refine ?_; exact xR rfl rfl (⟨_, rfl, fun h => (by cases h)⟩)
theorem fuelled_fn (ra : Option Addr) (rc : Nat) (re : List Nd) (hre : ∀ x ∈ re, -128 ≤ x.op ∧ x.op < 128) (hrl : re.length ≤ 1000000) (xa : Option Addr) (xc : Nat) (w : List UInt8) (hwl : w.length ≤ 1000000) (hsb : shapedB re = true) (hfit : Fits re w.length) (f : Int) : HL.Fn Tryz.prog 63 [.int .i64 4611686018427387904, .slice ra re.length rc, .slice xa w.length xc, .int .i64 f] (fun W => RdP W 0 0 (Esp noS) ∧ Rd En W (.slice ra re.length rc) re ∧ Rd Eb W (.slice xa w.length xc) w) [] (fun v S' => ∃ b L a c, v = .tuple #[.slice a L.length c, .bool b] ∧ OwnS Esp 2 40 (.slice a L.length c) L S' ∧ BkRes re w f b L) := by
  refine fn_of Tryz.func63 rfl rfl rfl fun w0 hw => ?_; refine cR fun _ hK1 => ?_; refine oA (oA (oZ hK1 (cR fun _ hK2 => ?_))); refine oM (oM (oM (oM ?_))); refine o_call (bFind_fn ra rc re hre xa xc w hrl hwl f 4611686018427387904 (by decide) (by decide) (fun _ => hfit)) rfl rfl rfl (by exact .nil) (fun w st => ⟨(RdK.old0 hw.2.1).out w st, (RdK.old0 hw.2.2).out w st, (RdPK.old0 hw.1).out w st⟩) (fun v18 S18 h18 => ?_)
  obtain ⟨b, L, a, c, e, hv18, hO, hB⟩ := h18.res hsb
  subst hv18; refine oM ?_; refine oS sE ?_; refine oS sE ?_; refine oS sE (oA (oA (oA (oZ hK2 (cR fun _ hK3 => ?_))))); refine oM (oM (oA (oA (oZ hK3 (c_ret ?_))))); refine ?_; refine x_sub (Sub.refl _) (H' := S18) hzB ?_; exact x_ret rfl (.tmp rfl (.tmp rfl (.nil))) (⟨b, L, a, c, rfl, hO, hB⟩)
end Go.Proofs.YtopmnmigpbdddaaGreatDoor
namespace Go.HL.Kl.Mc
open Go Go.HL Go.HL.Kl
def comeL (l : List Nat) (k : Nat) : List Nat := if k ∈ l then l else l ++ [k]
theorem comeL_mem {l : List Nat} {k j : Nat} : j ∈ comeL l k ↔ j ∈ l ∨ j = k := by
  unfold comeL
  split
  · exact ⟨.inl, fun h => h.elim id fun h => h ▸ ‹k ∈ l›⟩
  · simp
theorem comeL_pre {l : List Nat} {k i : Nat} (h : i < l.length) : (comeL l k)[i]? = l[i]? := by
  unfold comeL
  split
  · rfl
  · rw [List.getElem?_append_left h]
theorem comeL_len {l : List Nat} {k : Nat} : l.length ≤ (comeL l k).length ∧ (comeL l k).length ≤ l.length + 1 := by
  unfold comeL
  split <;> simp
theorem comeL_nd {l : List Nat} {k : Nat} (h : l.Nodup) : (comeL l k).Nodup := by
  unfold comeL
  split
  · exact h
  · rw [List.nodup_append]
    refine ⟨h, by simp, fun a ha b hb e => ?_⟩
    simp only [List.mem_singleton] at hb
    subst hb; subst e; exact ‹a ∉ l› ha
structure MetOk (mt : List Int) (st : Int) (l : List Nat) (N : Nat) : Prop where
  len : mt.length = N
  get : ∀ (k : Nat) v, mt[k]? = some v → (v = st ↔ k ∈ l)
  le : ∀ v ∈ mt, 0 ≤ v ∧ v ≤ st
  lt : ∀ k ∈ l, k < N
  nd : l.Nodup
theorem nodup_le : ∀ {N : Nat} {l : List Nat}, l.Nodup → (∀ k ∈ l, k < N) → l.length ≤ N
  | 0, l, _, hl => by
    cases l with
    | nil => exact Nat.le_refl _
    | cons a l => exact absurd (hl a List.mem_cons_self) (by omega)
  | N + 1, l, h, hl => by
    have h1 := nodup_le (N := N) (h.erase N) fun k hk => by
      have h2 := (h.mem_erase_iff).1 hk
      have := hl k h2.2
      have := h2.1
      omega
    by_cases hm : N ∈ l
    · rw [List.length_erase_of_mem hm] at h1; omega
    · rw [List.erase_of_not_mem hm] at h1; omega
theorem MetOk.big {mt : List Int} {st : Int} {l : List Nat} {N : Nat} (h : MetOk mt st l N) : l.length ≤ N := nodup_le h.nd h.lt
theorem MetOk.come {mt : List Int} {st : Int} {l : List Nat} {N k : Nat} (h : MetOk mt st l N) (hk : k < N) (hn : k ∉ l) (h0 : 0 ≤ st) : MetOk (mt.set k st) st (comeL l k) N := by
  refine ⟨by rw [List.length_set]; exact h.len, fun j v hv => ?_, fun v hv => ?_, fun j hj => ?_, comeL_nd h.nd⟩
  · rw [comeL_mem]
    by_cases e : k = j
    · subst e
      rw [List.getElem?_set_self (by rw [h.len]; exact hk)] at hv
      cases hv
      exact ⟨fun _ => .inr rfl, fun _ => rfl⟩
    · rw [List.getElem?_set_ne e] at hv
      rw [h.get j v hv]
      exact ⟨.inl, fun h => h.elim id fun e' => absurd e'.symm e⟩
  · rcases List.mem_or_eq_of_mem_set hv with h' | rfl
    · exact h.le v h'
    · exact ⟨h0, Int.le_refl _⟩
  · rcases comeL_mem.1 hj with h' | rfl
    · exact h.lt j h'
    · exact hk
variable {m : List In} {w : List UInt8}
structure Lst (m : List In) (n p : Nat) (B : Nat → Prop) (l : List Nat) (i : Nat) : Prop where
  lt : ∀ k ∈ l, k < m.length
  base : ∀ k, B k → k ∈ l
  src : ∀ k ∈ l, ∃ b, B b ∧ EpsS m n p b k
  cl : ∀ (j k k' : Nat), j < i → l[j]? = some k → Eps m n p k k' → k' ∈ l
theorem Lst.start {n p : Nat} {B : Nat → Prop} {l : List Nat} (hl : ∀ k, k ∈ l ↔ B k) (hb : ∀ k, B k → k < m.length) : Lst m n p B l 0 :=
  ⟨fun k hk => hb k ((hl k).1 hk), fun k hk => (hl k).2 hk, fun k hk => ⟨k, (hl k).1 hk, .refl⟩, fun j k k' h => by omega⟩
structure LstS (m : List In) (n p : Nat) (B : Nat → Prop) (l : List Nat) (i : Nat) (D : List Nat) : Prop where
  lst : Lst m n p B l i
  pl : i < l.length
  dn : ∀ k ∈ D, k ∈ l
theorem Lst.go {n p : Nat} {B : Nat → Prop} {l : List Nat} {i : Nat} (h : Lst m n p B l i) (hi : i < l.length) : LstS m n p B l i [] := ⟨h, hi, fun k hk => by cases hk⟩
theorem LstS.come {n p : Nat} {B : Nat → Prop} {l D : List Nat} {i k k' : Nat} (hm : MOk m) (h : LstS m n p B l i D) (hk : l[i]? = some k) (he : Eps m n p k k') : LstS m n p B (comeL l k') i (k' :: D) := by
  refine ⟨⟨fun j hj => ?_, fun j hj => comeL_mem.2 (.inl (h.lst.base j hj)), fun j hj => ?_, fun j x x' hj hx hxx => ?_⟩, Nat.lt_of_lt_of_le h.pl comeL_len.1, fun j hj => ?_⟩
  · rcases comeL_mem.1 hj with h' | rfl
    · exact h.lst.lt j h'
    · exact hm.lt he
  · rcases comeL_mem.1 hj with h' | rfl
    · exact h.lst.src j h'
    · obtain ⟨b, hb, hbk⟩ := h.lst.src k (List.mem_of_getElem? hk)
      exact ⟨b, hb, hbk.tail he⟩
  · rw [comeL_pre (Nat.lt_trans hj h.pl)] at hx
    exact comeL_mem.2 (.inl (h.lst.cl j x x' hj hx hxx))
  · rcases List.mem_cons.1 hj with rfl | hj
    · exact comeL_mem.2 (.inr rfl)
    · exact comeL_mem.2 (.inl (h.dn j hj))
theorem LstS.next {n p : Nat} {B : Nat → Prop} {l D : List Nat} {i k : Nat} (h : LstS m n p B l i D) (hk : l[i]? = some k) (hd : ∀ k', Eps m n p k k' → k' ∈ D) : Lst m n p B l (i + 1) := by
  refine ⟨h.lst.lt, h.lst.base, h.lst.src, fun j x x' hj hx hxx => ?_⟩
  by_cases e : j = i
  · subst e; rw [hk] at hx; cases hx
    exact h.dn x' (hd x' hxx)
  · exact h.lst.cl j x x' (by omega) hx hxx
theorem Lst.done {n p : Nat} {B : Nat → Prop} {l : List Nat} {i : Nat} (h : Lst m n p B l i) (hi : l.length ≤ i) (k : Nat) : k ∈ l ↔ ∃ b, B b ∧ EpsS m n p b k := by
  refine ⟨h.src k, fun ⟨b, hb, he⟩ => ?_⟩
  have key : ∀ {x y : Nat}, EpsS m n p x y → x ∈ l → y ∈ l := by
    intro x y he
    induction he with
    | refl => exact id
    | head h1 _ ih =>
      intro hx
      obtain ⟨j, hj⟩ := List.mem_iff_getElem?.1 hx
      exact ih (h.cl j _ _ (Nat.lt_of_lt_of_le (List.getElem?_eq_some_iff.1 hj).1 hi) hj h1)
  exact key he (h.base b hb)
def wayB (m : List In) (w : List UInt8) (p : Nat) (l : List Nat) (j : Nat) (k : Nat) : Prop := ∃ i x, i < j ∧ l[i]? = some x ∧ Eat m w x p ∧ k = x + 1
theorem wayB_zero {p : Nat} {l : List Nat} {k : Nat} : ¬ wayB m w p l 0 k := fun ⟨i, _, h, _⟩ => by omega
theorem wayB_yes {p j x : Nat} {l : List Nat} {k : Nat} (hx : l[j]? = some x) (he : Eat m w x p) : wayB m w p l (j + 1) k ↔ wayB m w p l j k ∨ k = x + 1 := by
  constructor
  · rintro ⟨i, y, h1, h2, h3, h4⟩
    by_cases e : i = j
    · subst e; rw [hx] at h2; cases h2; exact .inr h4
    · exact .inl ⟨i, y, by omega, h2, h3, h4⟩
  · rintro (⟨i, y, h1, h2, h3, h4⟩ | h)
    · exact ⟨i, y, by omega, h2, h3, h4⟩
    · exact ⟨j, x, by omega, hx, he, h⟩
theorem wayB_no {p j x : Nat} {l : List Nat} {k : Nat} (hx : l[j]? = some x) (he : ¬ Eat m w x p) : wayB m w p l (j + 1) k ↔ wayB m w p l j k := by
  constructor
  · rintro ⟨i, y, h1, h2, h3, h4⟩
    by_cases e : i = j
    · subst e; rw [hx] at h2; cases h2; exact absurd h3 he
    · exact ⟨i, y, by omega, h2, h3, h4⟩
  · rintro ⟨i, y, h1, h2, h3, h4⟩; exact ⟨i, y, by omega, h2, h3, h4⟩
def Base (m : List In) (w : List UInt8) (f p : Nat) (k : Nat) : Prop := (p = f ∧ k = 0) ∨ ∃ q x, p = q + 1 ∧ f ≤ q ∧ Run m w (0, f) (x, q) ∧ Eat m w x q ∧ k = x + 1
theorem run_base2 {f p k : Nat} (hf : f ≤ p) : Run m w (0, f) (k, p) ↔ ∃ b, Base m w f p b ∧ EpsS m w.length p b k := by
  rcases Nat.lt_or_ge f p with h | h
  · obtain ⟨q, rfl⟩ : ∃ q, p = q + 1 := ⟨p - 1, by omega⟩
    rw [run_succ (by omega)]
    constructor
    · rintro ⟨j, h1, h2, h3⟩; exact ⟨j + 1, .inr ⟨q, j, rfl, by omega, h1, h2, rfl⟩, h3⟩
    · rintro ⟨b, (⟨h1, _⟩ | ⟨q', x, h1, _, h2, h3, rfl⟩), h4⟩
      · omega
      · obtain rfl : q = q' := by omega
        exact ⟨x, h2, h3, h4⟩
  · obtain rfl : p = f := by omega
    rw [run_base]
    constructor
    · intro h; exact ⟨0, .inl ⟨rfl, rfl⟩, h⟩
    · rintro ⟨b, (⟨_, rfl⟩ | ⟨q', x, h1, h2, _⟩), h4⟩
      · exact h4
      · omega
theorem base_lt {f p k : Nat} (hm : MOk m) (h : Base m w f p k) : k < m.length := by
  rcases h with ⟨_, rfl⟩ | ⟨q, x, _, _, _, ⟨t, b, ht, ho, _⟩, rfl⟩
  · exact hm.1
  · exact (hm.2.2 x t ht).2 (by omega)
theorem way_base {f p : Nat} {l : List Nat} (hf : f ≤ p) (hl : ∀ k, k ∈ l ↔ Run m w (0, f) (k, p)) {k : Nat} : wayB m w p l l.length k ↔ Base m w f (p + 1) k := by
  constructor
  · rintro ⟨i, x, _, h2, h3, rfl⟩
    exact .inr ⟨p, x, rfl, hf, (hl x).1 (List.mem_of_getElem? h2), h3, rfl⟩
  · rintro (⟨h1, _⟩ | ⟨q, x, h1, _, h2, h3, rfl⟩)
    · omega
    · obtain rfl : p = q := by omega
      obtain ⟨i, hi⟩ := List.mem_iff_getElem?.1 ((hl x).2 h2)
      exact ⟨i, x, (List.getElem?_eq_some_iff.1 hi).1, hi, h3, rfl⟩
structure EndsTo (m : List In) (w : List UInt8) (f p : Nat) (es : List Bool) (last : Int) : Prop where
  len : es.length = w.length + 1
  get : ∀ q, q ≤ w.length → (es[q]? = some true ↔ f ≤ q ∧ q < p ∧ Hit m w f q)
  last : (last = -1 ∧ ∀ q, q ≤ w.length → ¬ (f ≤ q ∧ q < p ∧ Hit m w f q)) ∨ ∃ q : Nat, last = q ∧ f ≤ q ∧ q < p ∧ q ≤ w.length ∧ Hit m w f q ∧ ∀ q', q < q' → q' < p → q' ≤ w.length → ¬ Hit m w f q'
theorem EndsTo.zero {f : Nat} : EndsTo m w f f (List.replicate (w.length + 1) false) (-1) :=
  ⟨List.length_replicate, fun q hq => ⟨fun h => (by rw [List.getElem?_replicate] at h; split at h <;> cases h), fun ⟨h1, h2, _⟩ => by omega⟩, .inl ⟨rfl, fun q _ ⟨h1, h2, _⟩ => by omega⟩⟩
theorem EndsTo.step {f p : Nat} {es es' : List Bool} {last last' : Int} (h : EndsTo m w f p es last) (hf : f ≤ p) (hp : p ≤ w.length) (h1 : Hit m w f p → es' = es.set p true ∧ last' = p) (h2 : ¬ Hit m w f p → es' = es ∧ last' = last) : EndsTo m w f (p + 1) es' last' := by
  by_cases hh : Hit m w f p
  · obtain ⟨rfl, rfl⟩ := h1 hh
    refine ⟨by rw [List.length_set]; exact h.len, fun q hq => ?_, .inr ⟨p, rfl, hf, by omega, hp, hh, fun q' a b c => by omega⟩⟩
    by_cases e : p = q
    · subst e
      rw [List.getElem?_set_self (by rw [h.len]; omega)]
      exact ⟨fun _ => ⟨hf, by omega, hh⟩, fun _ => rfl⟩
    · rw [List.getElem?_set_ne e, h.get q hq]
      exact ⟨fun ⟨a, b, c⟩ => ⟨a, by omega, c⟩, fun ⟨a, b, c⟩ => ⟨a, by omega, c⟩⟩
  · obtain ⟨rfl, rfl⟩ := h2 hh
    refine ⟨h.len, fun q hq => ?_, ?_⟩
    · rw [h.get q hq]
      exact ⟨fun ⟨a, b, c⟩ => ⟨a, by omega, c⟩, fun ⟨a, b, c⟩ => ⟨a, by (by_cases e : q = p; (· subst e; exact absurd c hh); (· omega)), c⟩⟩
    · rcases h.last with ⟨e, hn⟩ | ⟨q, e, a, b, c, d, g⟩
      · exact .inl ⟨e, fun q hq ⟨a, b, c⟩ => by (by_cases e : q = p; (· subst e; exact hh c); (· exact hn q hq ⟨a, by omega, c⟩))⟩
      · exact .inr ⟨q, e, a, by omega, c, d, fun q' x y z => by (by_cases e' : q' = p; (· subst e'; exact hh); (· exact g q' x (by omega) z))⟩
theorem hit_mem {f p : Nat} {l : List Nat} (hl : ∀ k, k ∈ l ↔ Run m w (0, f) (k, p)) : Hit m w f p ↔ ∃ k t, k ∈ l ∧ m[k]? = some t ∧ t.op = 6 :=
  ⟨fun ⟨i, t, h1, h2, h3⟩ => ⟨i, t, (hl i).2 h1, h2, h3⟩, fun ⟨k, t, h1, h2, h3⟩ => ⟨k, t, (hl k).1 h1, h2, h3⟩⟩
theorem EndsTo.stop {f p : Nat} {es : List Bool} {last : Int} (h : EndsTo m w f p es last) (hn : ∀ k, ¬ Base m w f p k) (hf : f < p) : ∀ q, p ≤ q → ¬ Hit m w f q := by
  have key : ∀ n k, ¬ Run m w (0, f) (k, p + n) := by
    intro n
    induction n with
    | zero => intro k hr; obtain ⟨b, hb, _⟩ := (run_base2 (by omega)).1 hr; exact hn b hb
    | succ n ih =>
      intro k hr
      rw [← Nat.add_assoc, run_succ (by omega)] at hr
      obtain ⟨j, h1, _⟩ := hr
      exact ih j h1
  intro q hq ⟨i, t, hr, _⟩
  exact key (q - p) i (by rw [show p + (q - p) = q by omega]; exact hr)
theorem EndsTo.ext {f p p' : Nat} {es : List Bool} {last : Int} (h : EndsTo m w f p es last) (hp : p ≤ p') (hn : ∀ q, p ≤ q → q ≤ w.length → ¬ Hit m w f q) : EndsTo m w f p' es last := by
  refine ⟨h.len, fun q hq => ?_, ?_⟩
  · rw [h.get q hq]
    exact ⟨fun ⟨a, b, c⟩ => ⟨a, by omega, c⟩, fun ⟨a, b, c⟩ => ⟨a, Nat.lt_of_not_le fun e => hn q e hq c, c⟩⟩
  · rcases h.last with ⟨e, hn'⟩ | ⟨q, e, a, b, c, d, g⟩
    · exact .inl ⟨e, fun q hq ⟨a, b, c⟩ => hn' q hq ⟨a, Nat.lt_of_not_le fun e => hn q e hq c, c⟩⟩
    · exact .inr ⟨q, e, a, by omega, c, d, fun q' x y z c' => (Nat.lt_or_ge q' p).elim (fun e' => g q' x e' z c') fun e' => hn q' e' z c'⟩
structure Done6 (m : List In) (l : List Nat) (i p : Nat) (es0 : List Bool) (last0 : Int) (es : List Bool) (last : Int) : Prop where
  y : (∃ j k t, j < i ∧ l[j]? = some k ∧ m[k]? = some t ∧ t.op = 6) → es = es0.set p true ∧ last = p
  n : ¬ (∃ (j k : Nat) (t : In), j < i ∧ l[j]? = some k ∧ m[k]? = some t ∧ t.op = 6) → es = es0 ∧ last = last0
theorem Done6.zero {l : List Nat} {p : Nat} {es0 : List Bool} {last0 : Int} : Done6 m l 0 p es0 last0 es0 last0 := ⟨fun ⟨j, _, _, h, _⟩ => by omega, fun _ => ⟨rfl, rfl⟩⟩
theorem Done6.mono {l l' : List Nat} {i p : Nat} {es0 es : List Bool} {last0 last : Int} (h : Done6 m l i p es0 last0 es last) (hl : ∀ j, j < i → l'[j]? = l[j]?) : Done6 m l' i p es0 last0 es last :=
  ⟨fun ⟨j, k, t, h1, h2, h3⟩ => h.y ⟨j, k, t, h1, by rw [← hl j h1]; exact h2, h3⟩, fun hn => h.n fun ⟨j, k, t, h1, h2, h3⟩ => hn ⟨j, k, t, h1, by rw [hl j h1]; exact h2, h3⟩⟩
theorem Done6.no {l : List Nat} {i p k : Nat} {t : In} {es0 es : List Bool} {last0 last : Int} (h : Done6 m l i p es0 last0 es last) (hk : l[i]? = some k) (ht : m[k]? = some t) (h6 : ¬ t.op = 6) : Done6 m l (i + 1) p es0 last0 es last := by
  have e : ∀ {j k' t'}, j < i + 1 → l[j]? = some k' → m[k']? = some t' → t'.op = 6 → j < i := by
    intro j k' t' h1 h2 h3 h4
    rcases Nat.lt_or_ge j i with h5 | h5
    · exact h5
    · obtain rfl : j = i := by omega
      rw [hk] at h2; cases h2
      rw [ht] at h3; cases h3
      exact absurd h4 h6
  exact ⟨fun ⟨j, k', t', h1, h2, h3, h4⟩ => h.y ⟨j, k', t', e h1 h2 h3 h4, h2, h3, h4⟩, fun hn => h.n fun ⟨j, k', t', h1, h2, h3⟩ => hn ⟨j, k', t', by omega, h2, h3⟩⟩
theorem Done6.yes {l : List Nat} {i p k : Nat} {t : In} {es0 es : List Bool} {last0 last : Int} (h : Done6 m l i p es0 last0 es last) (hk : l[i]? = some k) (ht : m[k]? = some t) (h6 : t.op = 6) : Done6 m l (i + 1) p es0 last0 (es.set p true) p := by
  refine ⟨fun _ => ⟨?_, rfl⟩, fun hn => absurd ⟨i, k, t, by omega, hk, ht, h6⟩ hn⟩
  by_cases hc : ∃ (j k : Nat) (t : In), j < i ∧ l[j]? = some k ∧ m[k]? = some t ∧ t.op = 6
  · rw [(h.y hc).1, List.set_set]
  · rw [(h.n hc).1]
theorem EndsTo.done {f p i : Nat} {l : List Nat} {es es0 : List Bool} {last last0 : Int} (h : EndsTo m w f p es0 last0) (hd : Done6 m l i p es0 last0 es last) (hi : l.length ≤ i) (hf : f ≤ p) (hp : p ≤ w.length) (hl : ∀ k, k ∈ l ↔ Run m w (0, f) (k, p)) : EndsTo m w f (p + 1) es last := by
  refine h.step hf hp (fun hh => ?_) (fun hh => ?_)
  · obtain ⟨k, t, h1, h2, h3⟩ := (hit_mem hl).1 hh
    obtain ⟨j, hj⟩ := List.mem_iff_getElem?.1 h1
    exact hd.y ⟨j, k, t, Nat.lt_of_lt_of_le (List.getElem?_eq_some_iff.1 hj).1 hi, hj, h2, h3⟩
  · exact hd.n fun ⟨j, k, t, _, h1, h2, h3⟩ => hh ((hit_mem hl).2 ⟨k, t, List.mem_of_getElem? h1, h2, h3⟩)
def Es16 (x : Int) : List Value := [.int .i16 x]
instance : Enc Es16 1 := ⟨fun _ => rfl, fun x v hv => by
  simp only [Es16, List.mem_cons, List.not_mem_nil, or_false] at hv
  subst hv; rfl⟩
structure FrG where
  (st steps last : Int) (mt : List Int) (ha : Option Addr) (hc : Nat) (l : List Nat) (wa : Option Addr) (wc : Nat) (wl : List Nat) (es : List Bool) (St Sh Sw Se : Hp)
end Go.HL.Kl.Mc
namespace Go.Proofs.YtopmnmigpbdddaaGreatDoor
open Go Go.HL Go.Proofs Go.HL.Kl Go.HL.Kl.Mc Go.HL.Kl.Mc.AskE
theorem wrap16 {x : Int} (h : -32768 ≤ x ∧ x < 32768) : IntKind.i16.wrap x = x := by
  simp [IntKind.wrap, IntKind.signed, IntKind.bits]; omega
theorem fresh_fn (bS : Nat) (ma : Option Addr) (mc : Nat) (m : List In) (ta : Option Addr) (tc : Nat) (vh vw ve : Value) (st steps : Int) (mt : List Int) (St : Hp) (hT : OwnS Es16 1 152 (.slice ta m.length tc) mt St) (l : List Nat) (hM : MetOk mt st l m.length) (h0 : 0 ≤ st) (h1 : st ≤ 32767) : HL.Fn Tryz.prog 122 [pt bS] (fun _ => True) ((bS, .cells [.slice ma m.length mc, .slice ta m.length tc, .int .i16 st, vh, vw, ve, .int .i64 steps].toArray 154 (0, 0)) :: St) (fun _ S' => ∃ mt' St' st', S' = (bS, .cells [.slice ma m.length mc, .slice ta m.length tc, .int .i16 st', vh, vw, ve, .int .i64 steps].toArray 154 (0, 0)) :: St' ∧ OwnS Es16 1 152 (.slice ta m.length tc) mt' St' ∧ MetOk mt' st' [] m.length ∧ 0 ≤ st' ∧ st' ≤ 32767) := by
  refine fn_of Tryz.func122 rfl rfl rfl fun w0 hw => ?_
  have hml := hM.len
  refine c_seqJ (ι := Int × List Int × Hp) (fun g => (0 ≤ g.1 ∧ g.1 ≤ 32766) ∧ OwnS Es16 1 152 (.slice ta m.length tc) g.2.1 g.2.2 ∧ (∀ v ∈ g.2.1, 0 ≤ v ∧ v ≤ g.1) ∧ g.2.1.length = m.length) (fun g => []) [(0, _)] (fun g => (bS, .cells [.slice ma m.length mc, .slice ta m.length tc, .int .i16 g.1, vh, vw, ve, .int .i64 steps].toArray 154 (0, 0)) :: g.2.2) sbA ?_ ?_
  ·rintro g ⟨⟨hg0, hg1⟩, hgo, hgv, hgl⟩
   refine c_region (oM ?_); refine oS sN ?_; refine oS sF ?_; refine oS sL ?_; refine oS (step_cast (v' := .int .i16 (g.1 + 1)) (s_addw rfl rfl) (congrArg _ (wrap16 (by omega)))) ?_; refine oS sN ?_; refine oS sF ?_; refine o_store rfl rfl rfl upA ltA rfl ?_; refine o_nil ?_; refine x_sub (Sub.refl _) (H' := (bS, .cells [.slice ma m.length mc, .slice ta m.length tc, .int .i16 (g.1 + 1), vh, vw, ve, .int .i64 steps].toArray 154 (0, 0)) :: g.2.2) hzB ?_; exact x_end rfl (.nil) (⟨g.2.1, g.2.2, g.1 + 1, rfl, hgo, ⟨hgl, fun k v hv => ⟨fun e => by have := (hgv v (List.mem_of_getElem? hv)).2; omega, fun h => (by cases h)⟩, fun v hv => ⟨(hgv v hv).1, by have := (hgv v hv).2; omega⟩, fun k h => (by cases h), List.nodup_nil⟩, by omega, by omega⟩)
  ·intro _ hJ1
   refine cR fun _ hK2 => ?_; refine oM ?_; refine oS sN ?_; refine oS sF ?_; refine oS sL ?_
   by_cases hs : st = 32767
   ·refine oS eqT (oZ hK2 ?_); refine cT (cR fun _ hK3 => ?_); refine oM ?_; refine oS sN ?_; refine oS sF ?_; refine oS sL ?_; refine o_clear (zx := (0 : Int)) hT rfl rfl pkA fun S4 hS4 => ?_; refine oZ hK3 (c_region (oM ?_)); refine oS sN ?_; refine oS sF ?_; refine o_store rfl rfl rfl upA ltA rfl ?_; refine o_nil ?_; exact x_then (hJ1 (0, List.replicate mt.length 0, S4) _ _ ⟨⟨by show (0 : Int) ≤ 0; decide, by show (0 : Int) ≤ 32766; decide⟩, (by have h := hS4; simpa [hml] using h), (fun v hv => by have := List.eq_of_mem_replicate hv; dsimp only; omega), by simpa using hml⟩ sbA sbA hzB)
   ·refine oS eqF (oZ hK2 ?_); refine cF (c_skip ?_); exact x_then (hJ1 (st, mt, St) _ _ ⟨⟨h0, by omega⟩, hT, hM.le, hml⟩ sbA sbA hzB)
set_option maxHeartbeats 1000000 in
theorem come_fn (bS : Nat) (ma : Option Addr) (mc : Nat) (m : List In) (hml : m.length ≤ 70000) (ta : Option Addr) (tc : Nat) (vh vw ve : Value) (st steps : Int) (mt : List Int) (St : Hp) (hT : OwnS Es16 1 152 (.slice ta m.length tc) mt St) (la : Option Addr) (lc : Nat) (l : List Nat) (Sl : Hp) (hl : OwnS Eix 1 3 (.slice la l.length lc) l Sl) (hM : MetOk mt st l m.length) (h0 : 0 ≤ st) (k : Nat) (hk : k < m.length) : HL.Fn Tryz.prog 123 [pt bS, .slice la l.length lc, .int .i64 k] (fun _ => True) ((bS, .cells [.slice ma m.length mc, .slice ta m.length tc, .int .i16 st, vh, vw, ve, .int .i64 steps].toArray 154 (0, 0)) :: (St ++ Sl)) (fun v S' => ∃ a c mt' St' Sl' steps', v = .slice a (comeL l k).length c ∧ S' = (bS, .cells [.slice ma m.length mc, .slice ta m.length tc, .int .i16 st, vh, vw, ve, .int .i64 steps'].toArray 154 (0, 0)) :: (St' ++ Sl') ∧ OwnS Es16 1 152 (.slice ta m.length tc) mt' St' ∧ OwnS Eix 1 3 (.slice a (comeL l k).length c) (comeL l k) Sl' ∧ MetOk mt' st (comeL l k) m.length) := by
  refine fn_of Tryz.func123 rfl rfl rfl fun w0 hw => ?_
  have hml2 := hM.len
  have hbig := hM.big
  obtain ⟨x, hx⟩ : ∃ x, mt[k]? = some x := gE
  have hTs := hT.sl
  have hgx := hM.get k x hx
  refine cR fun _ hK1 => ?_; refine oA (oZ hK1 (c_seq fun _ hK2 => ?_)); refine c_seq fun _ hK3 => ?_; refine c_drawE ((bS, .cells [.slice ma m.length mc, .slice ta m.length tc, .int .i16 st, vh, vw, ve, .int .i64 steps].toArray 154 (0, 0)) :: St) (fun i => false) ?_; refine eK 0 rfl sM ?_; refine eK 1 rfl sN ?_; refine eK 2 rfl sF ?_; refine eK 3 rfl sL ?_; refine eK 4 rfl sM ?_; refine eK 5 rfl (s_idx rfl rfl (by rw [hml2] at hTs; exact hTs) (by omega)) ?_; refine eK 6 rfl (s_ld rfl ((hT.rdk hiA).ld k 0 hx rfl (by decide) (by omega))) ?_; refine eK 7 rfl sM ?_; refine eK 8 rfl sN ?_; refine eK 9 rfl sF ?_; refine eK 10 rfl sL (eO 11 rfl ?_)
  by_cases hxs : x = st
  ·have hkl := hgx.1 hxs
   have hcl : comeL l k = l := if_pos hkl
   refine o_step rfl (step_cast (v' := .bool true) (s_eql rfl rfl) (by rw [decide_eq_true hxs])) ?_; refine o_nil ?_; refine x_oneS hzB ?_; refine e_done (by kernel_rfl) ?_; refine x_then (hK3 _ _ ?_); refine c_true rfl ?_; refine c_seq fun _ hK4 => ?_; refine c_region ?_; refine o_step rfl (s_move rfl) ?_; refine o_step rfl (s_assign rfl) ?_; refine o_nil ?_; refine x_then (hK4 _ _ ?_); refine c_ret ?_; refine x_then_ret (?_); refine x_sub (Sub.refl _) (H' := (bS, .cells [.slice ma m.length mc, .slice ta m.length tc, .int .i16 st, vh, vw, ve, .int .i64 steps].toArray 154 (0, 0)) :: (St ++ Sl)) hzB ?_; exact x_ret rfl (.tmp rfl (.nil)) (⟨la, lc, mt, St, Sl, steps, by rw [hcl]; rfl, rfl, hT, by rw [hcl]; exact hl, by rw [hcl]; exact hM⟩)
  ·have hkl : k ∉ l := fun h => hxs (hgx.2 h)
   have hcl : comeL l k = l ++ [k] := if_neg hkl
   refine oS (eqF (h := hxs)) ?_; refine oX (eZ hK3 ?_); refine cFZ hK2 (c_seq fun _ hK5 => ?_); refine c_drawE ([(bS, .cells [.slice ma m.length mc, .slice ta m.length tc, .int .i16 st, vh, vw, ve, .int .i64 steps].toArray 154 (0, 0))]) (fun i => false) ?_; refine eK 0 rfl sM ?_; refine eK 1 rfl sN ?_; refine eK 2 rfl sF ?_; refine eK 3 rfl sL ?_; refine eK 4 rfl sM ?_; refine eK 5 rfl sM ?_; refine eK 6 rfl sN ?_; refine eK 7 rfl sF ?_; refine eK 8 rfl sL (eO 9 rfl ?_); refine oS (s_idx rfl rfl (by rw [hml2] at hTs; exact hTs) (by omega)) ?_; refine oX (eO 10 rfl ?_); refine o_stS1 k st hT pkA rfl rfl rfl (by omega) (by omega) fun S' hS' => ?_; refine oX (eZ hK5 (cR fun _ hK6 => ?_)); refine oM ?_; refine oS sN ?_; refine oS sF ?_; refine oS sL ?_; refine oS (s_addw rfl rfl) ?_; refine oS sN ?_; refine oS sF ?_; refine o_store rfl rfl rfl upA ltA rfl ?_; refine oZ hK6 (cR fun _ hK7 => ?_); refine oM (oM ?_); refine o_bs (E := Eix) (xs := [k]) (vs := [_]) rfl rfl rfl rfl rfl (by decide) (by decide) fun b39 S39 hS39 => ?_
   refine o_app hl (hS39.rdk hiA) rfl rfl rfl rfl (by simp; omega) (by simp; omega) rfl pkA fun a40 c40 S40 hS40 => ?_; refine o_step rfl (s_assign rfl) ?_; refine o_nil ?_; refine x_then (hK7 _ _ ?_); refine c_ret ?_; refine ?_; refine x_sub (Sub.refl _) (H' := (bS, .cells [.slice ma m.length mc, .slice ta m.length tc, .int .i16 st, vh, vw, ve, .int .i64 (IntKind.i64.wrap (steps + 1))].toArray 154 (0, 0)) :: (S' ++ S40)) hzB ?_; exact x_ret rfl (.tmp rfl (.nil)) (⟨a40, c40, mt.set k st, S', S40, _, by rw [hcl]; rfl, rfl, hS', by rw [hcl]; exact hS40, hM.come hk hkl h0⟩)
end Go.Proofs.YtopmnmigpbdddaaGreatDoor
