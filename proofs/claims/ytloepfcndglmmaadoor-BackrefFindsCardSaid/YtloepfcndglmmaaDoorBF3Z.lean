/- Back-references: how many takes a whole search has: every run has its points. Conditions: none. -/
import Derived.Test.YtloepfcndglmmaaDoorUB3Z
import Derived.Test.YtloepfcndglmmaaDoorHM2Z
namespace Go.HL.Kl.Mc
open Go Go.HL Go.HL.Kl AskE
theorem kids_num {re : List Nd} {x : Nd} {ks : F} {i e : Nat} (hp : Part re (.nd x ks .nil) i e) : ks.num = x.kids.toNat := by
  have h : (ks.num : Int) = x.kids := hp.wf.2.1
  omega
theorem op6_rng {x : Nd} (h : ndOk x = true) (h6 : x.op = 6) : (0 ≤ x.mn ∧ x.mn ≤ 255) ∧ (x.mx = -1 ∨ (0 ≤ x.mx ∧ x.mx ≤ 255)) := by
  simp only [ndOk, flds, Bool.and_eq_true, h6, if_true, decide_eq_true_eq] at h
  have := h.1.2
  omega
theorem RestAt.part {re : List Nd} : ∀ {f g : F} {p q e : Nat}, RestAt f p q g → Part re f p e → ∃ e2, Part re g q e2
  | .nil, g, p, q, e, h, hp => by obtain ⟨rfl, rfl⟩ := h; exact ⟨_, hp⟩
  | .nd y js r, g, p, q, e, h, hp => by
    rcases h with ⟨rfl, rfl⟩ | h
    · exact ⟨_, hp⟩
    · exact h.part hp.head.2.2
section
variable {K : SrE}
theorem rl_step {x : Nd} {f g : Frm} {at_ e : Nat} (hg : g = { f with kid := satK x f.kid }) (hm : x.mx < 0 ∨ (f.kid : Int) < x.mx) (h1 : at_ ≤ e) (h2 : e ≤ f.to) (hb : ¬ brk x f at_ e) : rlN x g e + 1 ≤ rlN x f at_ := by
  subst hg
  unfold rlN
  dsimp only
  unfold brk at hb
  by_cases he : e = at_
  · subst he
    have hk : satK x f.kid = f.kid + 1 ∧ f.kid < satM x := by
      unfold satK satM
      by_cases hx : x.mx < 0
      · rw [if_pos hx, if_pos hx]; omega
      · rw [if_neg hx, if_neg hx]; omega
    omega
  · have : (f.to - at_) * (satM x + 1) = (f.to - e) * (satM x + 1) + (e - at_) * (satM x + 1) := by rw [← Nat.add_mul]; congr 1; omega
    have h3 : satM x + 1 ≤ (e - at_) * (satM x + 1) := Nat.le_mul_of_pos_left _ (by omega)
    omega
theorem rl_start {x : Nd} {f : Frm} {at_ n : Nat} (h : f.to ≤ n) : rlN x f at_ ≤ (n + 1) * (satM x + 1) := by
  unfold rlN
  have h1 : (f.to - at_) * (satM x + 1) ≤ n * (satM x + 1) := Nat.mul_le_mul_right _ (by omega)
  rw [Nat.add_mul]; omega
theorem getD_ok {cs : List Sp} {n : Nat} (h : ∀ s ∈ cs, SpOk K s) : SpOk K (cs.getD n noS) := by
  rw [List.getD_eq_getElem?_getD]
  cases hc : cs[n]? with
  | none => exact .inl rfl
  | some s => exact h s (List.mem_of_getElem? hc)
theorem set_ok {S : SS} {f : Frm} {x : Nd} {n : Nat} (hS : FrsOk K S) (h1 : FrOk K f) (hx : K.re[f.node]? = some x) (h4 : ¬ x.op = 4) (h6 : ¬ x.op = 6) : ∀ s ∈ S.cs.set n ⟨(f.fr : Nat), (f.to : Nat)⟩, SpOk K s := fun s hs => by
  obtain ⟨x', ks, e, hp, hto, hc⟩ := h1
  have e0 := hp.head.1
  rw [hx] at e0
  obtain rfl := Option.some.inj e0
  rcases List.mem_or_eq_of_mem_set hs with hs | rfl
  · exact hS.sp s hs
  · rcases hc with h | h | h
    · exact absurd h.1 h4
    · exact absurd h.1 h6
    · exact .inr ⟨by simp, by simpa using h.2, by simpa using hto⟩
theorem frU_row {S : SS} {f : Frm} {x : Nd} {l : Nat} (h : FrU K S.fs f) (hx : K.re[f.node]? = some x) (ho : x.op = 4) (hl : f.left = l + 1) : FrU K S.fs { f with kid := K.bh f.kid, left := l, fr := 0 } := by
  obtain ⟨⟨x', ks, e, hp, hto, hfr, hc⟩, hU⟩ := h
  have e0 := hp.head.1
  rw [hx] at e0
  obtain rfl := Option.some.inj e0
  obtain ⟨_, g, hr, hgn, _⟩ : x.op = 4 ∧ ∃ g, RestAt ks (f.node + 1) f.kid g ∧ g.num = f.left ∧ _ := by rcases hc with h | h | h; (· exact h); (· omega); (· omega)
  obtain ⟨y, js, r, rfl⟩ : ∃ y js r, g = F.nd y js r := by cases g with
    | nil => simp only [F.num] at hgn; omega
    | nd y a c => exact ⟨y, a, c, rfl⟩
  obtain ⟨e2, hpg⟩ := hr.part hp.head.2.1
  have hbh : K.bh f.kid = f.kid + 1 + js.size := by unfold SrE.bh; rw [fo1 hpg]; simp only [F.size]; omega
  refine ⟨⟨x, ks, e, hp, hto, Nat.zero_le _, .inl ⟨ho, r, ?_, ?_, .inl rfl⟩⟩, hU⟩
  · show RestAt ks (f.node + 1) (K.bh f.kid) r
    rw [hbh]; exact hr.next
  · show r.num = l
    simp only [F.num] at hgn; omega
theorem slot_row {f : Frm} {x : Nd} {l : Nat} (h : ShOk K f) (hx : K.re[f.node]? = some x) (ho : x.op = 4) (hl : f.left = l + 1) : Slot K { f with kid := K.bh f.kid, left := l, fr := 0 } f.kid := by
  obtain ⟨x', ks, e, hp, hto, hfr, hc⟩ := h
  have e0 := hp.head.1
  rw [hx] at e0
  obtain rfl := Option.some.inj e0
  obtain ⟨_, g, hr, hgn, _⟩ : x.op = 4 ∧ ∃ g, RestAt ks (f.node + 1) f.kid g ∧ g.num = f.left ∧ _ := by rcases hc with h | h | h; (· exact h); (· omega); (· omega)
  obtain ⟨y, js, r, rfl⟩ : ∃ y js r, g = F.nd y js r := by cases g with
    | nil => simp only [F.num] at hgn; omega
    | nd y a c => exact ⟨y, a, c, rfl⟩
  obtain ⟨e2, hpg⟩ := hr.part hp.head.2.1
  have hbh : K.bh f.kid = f.kid + 1 + js.size := by unfold SrE.bh; rw [fo1 hpg]; simp only [F.size]; omega
  exact ⟨x, ks, e, hp, .inl ⟨ho, y, js, r, hr, hbh, by show l = r.num; simp only [F.num] at hgn; omega, rfl⟩⟩
theorem frU_rnd {S : SS} {f : Frm} {x : Nd} (h : FrU K S.fs f) (hx : K.re[f.node]? = some x) (ho : x.op = 6) (hm : x.mx < 0 ∨ (f.kid : Int) < x.mx) : FrU K S.fs { f with kid := satK x f.kid } := by
  obtain ⟨⟨x', ks, e, hp, hto, hfr, hc⟩, hU⟩ := h
  have e0 := hp.head.1
  rw [hx] at e0
  obtain rfl := Option.some.inj e0
  obtain ⟨_, hk, hl, hf0⟩ : x.op = 6 ∧ f.kid ≤ satM x ∧ f.left = 0 ∧ f.fr = 0 := by rcases hc with h | h | h; (· omega); (· exact h); (· omega)
  refine ⟨⟨x, ks, e, hp, hto, hfr, .inr (.inl ⟨ho, ?_, hl, hf0⟩)⟩, hU⟩
  show satK x f.kid ≤ satM x
  unfold satK satM
  split <;> omega
theorem frOk_rnd {f : Frm} {x : Nd} (h1 : FrOk K f) (hx : K.re[f.node]? = some x) (ho : x.op = 6) (hm : x.mx < 0 ∨ (f.kid : Int) < x.mx) : FrOk K { f with kid := satK x f.kid } := by
  obtain ⟨x', ks, e, hp, hto, hc⟩ := h1
  have e0 := hp.head.1
  rw [hx] at e0
  obtain rfl := Option.some.inj e0
  have hr := op6_rng hp.wf.1 ho
  refine ⟨x, ks, e, hp, hto, .inr (.inl ⟨ho, ?_⟩)⟩
  show satK x f.kid ≤ 255
  unfold satK
  split <;> omega
theorem rnd_fc {f : Frm} {x : Nd} {at_ : Nat} (h1 : FrOk K f) (hx : K.re[f.node]? = some x) (ho : x.op = 6) : (ends at_ f.to).length * (foAt K.re (f.node + 1) 1).size + 0 ≤ K.cst f := by
  obtain ⟨_, _, _, _, hto, _⟩ := h1
  rw [SrE.cst, hx]
  simp only [ho]
  rw [if_neg (by decide), if_pos trivial, ends_length]
  exact Nat.mul_le_mul_right _ (by omega)
theorem row_take {S S' : SS} {f : Frm} {x : Nd} {at_ e u l k : Nat} {b : Bool} (hS : FrsOk K S) (h1' : FrOk K f ∧ FrU K S.fs f) (h2 : f.up ≤ S.fs.length) (hx : K.re[f.node]? = some x) (ho : x.op = 4) (hl : f.left = l + 1) (hu : u = k + 1) (hg : S.fs[k]? = some { f with kid := K.bh f.kid, left := l, fr := 0 }) (he : at_ ≤ e ∧ e ≤ f.to)
    (ih : FrsOk K S → LgQ K S (.take f.kid at_ e u) → Gd K S S' (bdQ K S.fs (.take f.kid at_ e u)) (fcQ K (.take f.kid at_ e u)) b) : Gd K S S' (K.fRk S.fs f at_) (foAt K.re f.kid 1).size b := by
  obtain ⟨h1, hU⟩ := h1'
  have hslot := slot_row hU.1 hx ho hl
  obtain ⟨x', ks, e1, hp, hto, hc⟩ := h1
  have e0 := hp.head.1
  rw [hx] at e0
  obtain rfl := Option.some.inj e0
  obtain ⟨_, g, e2, hpg, hgn⟩ : x.op = 4 ∧ ∃ g e2, Part K.re g f.kid e2 ∧ g.num = f.left := by rcases hc with h | h | h; (· exact h); (· omega); (· omega)
  obtain ⟨y, js, r, rfl⟩ : ∃ y js r, g = F.nd y js r := by cases g with
    | nil => simp only [F.num] at hgn; omega
    | nd y a c => exact ⟨y, a, c, rfl⟩
  have hbh : K.bh f.kid = f.kid + 1 + js.size := by unfold SrE.bh; rw [fo1 hpg]; simp only [F.size]; omega
  have hrn : r.num = l := by simp only [F.num] at hgn; omega
  have hkl := (List.getElem?_eq_some_iff.1 hg).1
  subst hu; refine (ih hS ⟨⟨y, js, _, hpg.one⟩, he.1, by omega, by omega, f.kid, .inr ⟨k, _, rfl, hg, hslot⟩, .refl⟩).mono ?_ (Nat.le_refl _)
  show potF _ (foAt K.re f.kid 1) + K.rk S.fs (k + 1) e ≤ K.fRk S.fs f at_
  rw [rk_frm hS hg, fRk4 (f := { f with kid := K.bh f.kid, left := l, fr := 0 }) (x := x) hx ho, fRk4 (f := f) hx ho]
  dsimp only
  have e2' : foAt K.re (K.bh f.kid) l = r := by rw [hbh, ← hrn]; exact foAt_eq hpg.head.2.2
  have e1' : potF K.w.length (foAt K.re f.kid f.left) = potF K.w.length (F.nd y js .nil) + potF K.w.length r := by rw [← hgn, foAt_eq hpg, potF, potF]; simp only [potF]; omega
  rw [e2', e1', fo1 hpg]; omega
theorem rnd_take {S S0 S' : SS} {f : Frm} {x : Nd} {at_ e u k : Nat} {b : Bool} (hS : FrsOk K S) (h1' : FrOk K f ∧ FrU K S.fs f) (h2 : f.up ≤ S.fs.length) (hx : K.re[f.node]? = some x) (ho : x.op = 6) (hm : x.mx < 0 ∨ (f.kid : Int) < x.mx) (hu : u = k + 1) (hg : S.fs[k]? = some { f with kid := satK x f.kid }) (he : at_ ≤ e ∧ e ≤ f.to) (hb : ¬ brk x f at_ e) (hfs : S0.fs = S.fs) (hF : S0.F = S.F) (hfu : S0.fuel = S.fuel) (hts : S0.ts = S.ts) (hsp : ∀ s ∈ S0.cs, SpOk K s)
    (ih : FrsOk K S0 → LgQ K S0 (.take (f.node + 1) at_ e u) → Gd K S0 S' (bdQ K S0.fs (.take (f.node + 1) at_ e u)) (fcQ K (.take (f.node + 1) at_ e u)) b) : Gd K S S' (K.fRk S.fs f at_) (foAt K.re (f.node + 1) 1).size b := by
  obtain ⟨⟨x', ks, e1, hp, hto, hc⟩, hU⟩ := h1'
  have e0 := hp.head.1
  rw [hx] at e0
  obtain rfl := Option.some.inj e0
  obtain ⟨y, js, rfl⟩ := one_kid hp.wf (.inl ho)
  have hkl := (List.getElem?_eq_some_iff.1 hg).1
  subst hu
  have hk1 : 1 ≤ satK x f.kid := by unfold satK; split <;> omega
  have g := ih (hS.cs hfs hts hsp) ⟨⟨y, js, _, hp.head.2.1⟩, he.1, by omega, by rw [hfs]; omega, f.node + 1, .inr ⟨k, { f with kid := satK x f.kid }, rfl, by rw [hfs]; exact hg, x, _, e1, hp, .inr ⟨.inl ⟨ho, hk1⟩, rfl⟩⟩, .refl⟩
  refine (g.pre (S0 := S) (k := 0) ⟨[], by rw [hfs]; simp⟩ hts hF (by omega)).mono ?_ (Nat.le_refl _)
  show potF _ (foAt K.re (f.node + 1) 1) + K.rk S0.fs (k + 1) e ≤ K.fRk S.fs f at_
  rw [hfs, rk_frm hS hg, fRk6 (f := { f with kid := satK x f.kid }) (x := x) hx ho, fRk6 (f := f) hx ho]
  have h3 := rl_step (g := { f with kid := satK x f.kid }) rfl hm he.1 he.2 hb
  have h4 := Nat.mul_le_mul_right (potF K.w.length (foAt K.re (f.node + 1) 1) + 2) h3
  rw [Nat.add_mul, Nat.one_mul] at h4
  show _ + (rlN x { f with kid := satK x f.kid } e * (potF K.w.length (foAt K.re (f.node + 1) 1) + 2) + 1 + K.rk S.fs f.up f.to) ≤ _
  omega
theorem Ev.gd {S S' : SS} {q : SQ} {b : Bool} (h : Ev K S q b S') : FrsOk K S → LgQ K S q → Gd K S S' (bdQ K S.fs q) (fcQ K q) b := by
  have tk : ∀ {S : SS}, 0 < S.fuel → S.fuel ≤ S.tick.fuel + 1 := fun {S} h => by show S.fuel ≤ S.fuel - 1 + 1; omega
  induction h with
  | @takeNo S at_ i j up x hx hf ho hg =>
    intro hS ⟨⟨y, ks, e, hp⟩, hij, hj, hu, hua⟩
    have h0 : FrsOk K S.tick := hS.cs rfl rfl hS.sp
    refine ((Gd.refl h0 _).pre (S0 := S) (k := 1) ⟨[], by simp [SS.tick]⟩ rfl rfl (tk hf)).mono (Nat.le_refl _) ?_
    show 0 + 1 ≤ (foAt K.re at_ 1).size
    rw [fo1 hp, F.size]; omega
  | @takeYes S S' at_ i j up x b hx hf ho hg h ih =>
    intro hS ⟨⟨y, ks, e, hp⟩, hij, hj, hu, hua⟩
    have := ih (hS.cs rfl rfl hS.sp) ⟨hu, hj⟩
    refine (this.pre (S0 := S) (k := 1) ⟨[], by simp [SS.tick]⟩ rfl rfl (tk hf)).mono ?_ ?_
    · show K.rk S.fs up j + 1 ≤ potF _ (foAt K.re at_ 1) + _
      rw [fo1 hp]; have := pot1 (n := K.w.length) (x := y) (ks := ks); omega
    · show 0 + 1 ≤ (foAt K.re at_ 1).size
      rw [fo1 hp, F.size]; omega
  | @takeAlt S S' at_ i j up x b hx hf ho h ih =>
    intro hS ⟨⟨y, ks, e, hp⟩, hij, hj, hu, hua⟩
    obtain rfl : x = y := by have := hp.head.1; rw [hx] at this; exact Option.some.inj this
    have hk := kids_num hp
    have hfo : foAt K.re (at_ + 1) x.kids.toNat = ks := by rw [← hk]; exact foAt_eq hp.head.2.1
    have := ih (hS.cs rfl rfl hS.sp) ⟨⟨ks, _, hp.head.2.1, hk, fun q y js r hr => by obtain ⟨s, h1, h2⟩ := hua; exact ⟨s, h1, h2.step hp ho hr⟩⟩, hij, hj, hu⟩
    refine (this.pre (S0 := S) (k := 1) ⟨[], by simp [SS.tick]⟩ rfl rfl (tk hf)).mono ?_ ?_
    · show potF _ (foAt K.re (at_ + 1) x.kids.toNat) + K.rk S.fs up j ≤ potF _ (foAt K.re at_ 1) + _
      rw [fo1 hp, hfo, pot_n6 (by omega)]; omega
    · show (foAt K.re (at_ + 1) x.kids.toNat).size + 1 ≤ (foAt K.re at_ 1).size
      rw [fo1 hp, hfo, F.size]; omega
  | @takeCat S S2 S' at_ i j up u x b hx hf ho hpu h ih =>
    intro hS ⟨⟨y, ks, e, hp⟩, hij, hj, hu, hua⟩
    obtain rfl : x = y := by have := hp.head.1; rw [hx] at this; exact Option.some.inj this
    have hk := kids_num hp
    have hfo : foAt K.re (at_ + 1) x.kids.toNat = ks := by rw [← hk]; exact foAt_eq hp.head.2.1
    have hfr : FrOk K ⟨up, at_, at_ + 1, x.kids.toNat, i, j⟩ := ⟨x, ks, e, hp, hj, .inl ⟨ho, ks, _, hp.head.2.1, hk⟩⟩
    have hfr2 : FrU K S.fs ⟨up, at_, at_ + 1, x.kids.toNat, i, j⟩ := ⟨⟨x, ks, e, hp, hj, by show i ≤ _; omega, .inl ⟨ho, ks, RestAt.refl, hk, .inr ⟨rfl, hk.symm⟩⟩⟩, hua⟩
    have h0 : FrsOk K S.tick := hS.cs rfl rfl hS.sp
    obtain ⟨hS2, hx2, hF2, hfu2, hts2, k, rfl, hg⟩ := push_gd hpu h0 hfr hfr2 hu
    have := ih hS2 ⟨by have := (List.getElem?_eq_some_iff.1 hg).1; omega, by omega⟩
    refine (this.pre (S0 := S) (k := 1) hx2 hts2 hF2 (by rw [hfu2]; exact tk hf)).mono ?_ ?_
    · show K.rk S2.fs (k + 1) i + 1 ≤ potF _ (foAt K.re at_ 1) + K.rk S.fs up j
      rw [rk_frm hS2 hg, fRk4 (x := x) hx ho]
      dsimp only
      rw [fo1 hp, hfo, pot_n6 (by omega), rkx h0 hS2 hx2 hu]
      show potF _ ks + 1 + K.rk S.fs up j + 1 ≤ _
      omega
    · show 0 + 1 ≤ (foAt K.re at_ 1).size
      rw [fo1 hp, F.size]; omega
  | @takeRep S S2 S' at_ i j up u x b hx hf ho hpu h ih =>
    intro hS ⟨⟨y, ks, e, hp⟩, hij, hj, hu, hua⟩
    obtain rfl : x = y := by have := hp.head.1; rw [hx] at this; exact Option.some.inj this
    obtain ⟨y, js, rfl⟩ := one_kid hp.wf (.inl ho)
    have hfr : FrOk K ⟨up, at_, 0, 0, 0, j⟩ := ⟨x, _, e, hp, hj, .inr (.inl ⟨ho, Nat.zero_le _⟩)⟩
    have hfr2 : FrU K S.fs ⟨up, at_, 0, 0, 0, j⟩ := ⟨⟨x, _, e, hp, hj, Nat.zero_le _, .inr (.inl ⟨ho, Nat.zero_le _, rfl, rfl⟩)⟩, hua⟩
    have h0 : FrsOk K S.tick := hS.cs rfl rfl hS.sp
    obtain ⟨hS2, hx2, hF2, hfu2, hts2, k, rfl, hg⟩ := push_gd hpu h0 hfr hfr2 hu
    have := ih hS2 ⟨by have := (List.getElem?_eq_some_iff.1 hg).1; omega, by omega⟩
    refine (this.pre (S0 := S) (k := 1) hx2 hts2 hF2 (by rw [hfu2]; exact tk hf)).mono ?_ ?_
    · show K.rk S2.fs (k + 1) i + 1 ≤ potF _ (foAt K.re at_ 1) + K.rk S.fs up j
      rw [rk_frm hS2 hg, fRk6 (x := x) hx ho]
      dsimp only
      rw [fo1 hp, fo1 hp.head.2.1, rkx h0 hS2 hx2 hu]
      have h1 := rl_start (x := x) (f := ⟨up, at_, 0, 0, 0, j⟩) (at_ := i) (n := K.w.length) hj
      have h2 := Nat.mul_le_mul_right (potF K.w.length (.nd y js .nil) + 2) h1
      have h3 : potF K.w.length (F.nd x (.nd y js .nil) .nil) = (K.w.length + 1) * (satM x + 1) * (potF K.w.length (.nd y js .nil) + 2) + 2 := by rw [potF, if_pos ho]; rfl
      rw [h3]
      show _ + 1 + K.rk S.fs up j + 1 ≤ _
      omega
    · show 0 + 1 ≤ (foAt K.re at_ 1).size
      rw [fo1 hp, F.size]; omega
  | @takeGrpY S S2 S' at_ i j up u x hx hf ho hpu h ih =>
    intro hS ⟨⟨y, ks, e, hp⟩, hij, hj, hu, hua⟩
    obtain rfl : x = y := by have := hp.head.1; rw [hx] at this; exact Option.some.inj this
    obtain ⟨y, js, rfl⟩ := one_kid hp.wf (.inr ho)
    have hfr : FrOk K ⟨up, at_, 0, 0, i, j⟩ := ⟨x, _, e, hp, hj, .inr (.inr ⟨ho, hij⟩)⟩
    have hfr2 : FrU K S.fs ⟨up, at_, 0, 0, i, j⟩ := ⟨⟨x, _, e, hp, hj, by show i ≤ _; omega, .inr (.inr ⟨ho, rfl, rfl⟩)⟩, hua⟩
    have h0 : FrsOk K { S.tick with cs := fgt (K.inn (at_ + 1) (K.bh at_)) S.cs } := hS.cs rfl rfl (fgt_ok (.inl rfl) _ _ hS.sp)
    obtain ⟨hS2, hx2, hF2, hfu2, hts2, k, rfl, hg⟩ := push_gd hpu h0 hfr hfr2 hu
    have := ih hS2 ⟨⟨y, js, _, hp.head.2.1⟩, hij, hj, by have := (List.getElem?_eq_some_iff.1 hg).1; omega, at_ + 1, .inr ⟨k, _, rfl, hg, x, _, e, hp, .inr ⟨.inr ho, rfl⟩⟩, .refl⟩
    refine (this.pre (S0 := S) (k := 1) hx2 hts2 hF2 (by rw [hfu2]; exact tk hf)).mono ?_ ?_
    · show potF _ (foAt K.re (at_ + 1) 1) + K.rk S2.fs (k + 1) j ≤ potF _ (foAt K.re at_ 1) + K.rk S.fs up j
      rw [rk_frm hS2 hg, fRk7 (x := x) hx (by omega) (by omega)]
      dsimp only
      rw [fo1 hp, fo1 hp.head.2.1, rkx h0 hS2 hx2 hu, pot_n6 (x := x) (by omega)]
      show potF _ (.nd y js .nil) + (1 + K.rk S.fs up j) ≤ _
      omega
    · show (foAt K.re (at_ + 1) 1).size + 1 ≤ (foAt K.re at_ 1).size
      rw [fo1 hp, fo1 hp.head.2.1]; simp only [F.size]; omega
  | @takeGrpN S S2 S' at_ i j up u x hx hf ho hpu h ih =>
    intro hS ⟨⟨y, ks, e, hp⟩, hij, hj, hu, hua⟩
    obtain rfl : x = y := by have := hp.head.1; rw [hx] at this; exact Option.some.inj this
    obtain ⟨y, js, rfl⟩ := one_kid hp.wf (.inr ho)
    have hfr : FrOk K ⟨up, at_, 0, 0, i, j⟩ := ⟨x, _, e, hp, hj, .inr (.inr ⟨ho, hij⟩)⟩
    have hfr2 : FrU K S.fs ⟨up, at_, 0, 0, i, j⟩ := ⟨⟨x, _, e, hp, hj, by show i ≤ _; omega, .inr (.inr ⟨ho, rfl, rfl⟩)⟩, hua⟩
    have h0 : FrsOk K { S.tick with cs := fgt (K.inn (at_ + 1) (K.bh at_)) S.cs } := hS.cs rfl rfl (fgt_ok (.inl rfl) _ _ hS.sp)
    obtain ⟨hS2, hx2, hF2, hfu2, hts2, k, rfl, hg⟩ := push_gd hpu h0 hfr hfr2 hu
    have := ih hS2 ⟨⟨y, js, _, hp.head.2.1⟩, hij, hj, by have := (List.getElem?_eq_some_iff.1 hg).1; omega, at_ + 1, .inr ⟨k, _, rfl, hg, x, _, e, hp, .inr ⟨.inr ho, rfl⟩⟩, .refl⟩
    refine ((this.pre (S0 := S) (k := 1) hx2 hts2 hF2 (by rw [hfu2]; exact tk hf)).mono ?_ ?_).post (rst_ok (.inl rfl) _ _ _ (emW_ok (.inl rfl) _ _ hS.sp) this.1.sp) rfl rfl rfl rfl
    · show potF _ (foAt K.re (at_ + 1) 1) + K.rk S2.fs (k + 1) j ≤ potF _ (foAt K.re at_ 1) + K.rk S.fs up j
      rw [rk_frm hS2 hg, fRk7 (x := x) hx (by omega) (by omega)]
      dsimp only
      rw [fo1 hp, fo1 hp.head.2.1, rkx h0 hS2 hx2 hu, pot_n6 (x := x) (by omega)]
      show potF _ (.nd y js .nil) + (1 + K.rk S.fs up j) ≤ _
      omega
    · show (foAt K.re (at_ + 1) 1).size + 1 ≤ (foAt K.re at_ 1).size
      rw [fo1 hp, fo1 hp.head.2.1]; simp only [F.size]; omega
  | altNil => intro hS _; exact (Gd.refl hS _).mono (Nat.le_refl _) (Nat.zero_le _)
  | @altYes S S' kid l i j up h ih =>
    intro hS ⟨⟨g, e, hp, hn, hga⟩, hij, hj, hu⟩
    obtain ⟨y, js, r, rfl⟩ : ∃ y js r, g = F.nd y js r := by cases g with
      | nil => simp only [F.num] at hn; omega
      | nd y a c => exact ⟨y, a, c, rfl⟩
    have := ih hS ⟨⟨y, js, _, hp.one⟩, hij, hj, hu, hga _ _ _ _ RestAt.refl⟩
    refine this.mono ?_ ?_
    · show potF _ (foAt K.re kid 1) + _ ≤ potF _ (foAt K.re kid (l + 1)) + _
      rw [fo1 hp, ← hn, foAt_eq hp, potF, potF]; simp only [potF]; omega
    · show (foAt K.re kid 1).size ≤ (foAt K.re kid (l + 1)).size
      rw [fo1 hp, ← hn, foAt_eq hp]; simp only [F.size]; omega
  | @altNo S S1 S' kid l i j up b h h' ih ih' =>
    intro hS ⟨⟨g, e, hp, hn, hga⟩, hij, hj, hu⟩
    obtain ⟨y, js, r, rfl⟩ : ∃ y js r, g = F.nd y js r := by cases g with
      | nil => simp only [F.num] at hn; omega
      | nd y a c => exact ⟨y, a, c, rfl⟩
    have hbh : K.bh kid = kid + 1 + js.size := by unfold SrE.bh; rw [fo1 hp]; simp only [F.size]; omega
    have hrn : r.num = l := by simp only [F.num] at hn; omega
    have g1 := ih hS ⟨⟨y, js, _, hp.one⟩, hij, hj, hu, hga _ _ _ _ RestAt.refl⟩
    obtain ⟨a, ha⟩ := g1.2.1
    have g2 := ih' g1.1 ⟨⟨r, _, by rw [hbh]; exact hp.head.2.2, hrn, fun q y' js' r' hr => by rw [ha]; exact (hga q y' js' r' (.inr (by rw [hbh] at hr; exact hr))).ext⟩, hij, hj, by rw [ha, List.length_append]; omega⟩
    have e1 : potF K.w.length (foAt K.re kid (l + 1)) = potF K.w.length (F.nd y js .nil) + potF K.w.length r := by rw [← hn, foAt_eq hp, potF, potF]; simp only [potF]; omega
    have e2 : foAt K.re (K.bh kid) l = r := by rw [hbh, ← hrn]; exact foAt_eq hp.head.2.2
    refine ((g1.mono (bd' := bdQ K S.fs (.alt kid (l + 1) i j up)) ?_ (Nat.le_refl _)).trans (g2.mono ?_ (Nat.le_refl _))).mono (Nat.le_refl _) ?_
    · show potF _ (foAt K.re kid 1) + _ ≤ potF _ (foAt K.re kid (l + 1)) + _
      rw [e1, fo1 hp]; omega
    · show potF _ (foAt K.re (K.bh kid) l) + K.rk S1.fs up j ≤ potF _ (foAt K.re kid (l + 1)) + K.rk S.fs up j
      rw [e1, e2, rkx hS g1.1 g1.2.1 hu]; omega
    · show (foAt K.re kid 1).size + (foAt K.re (K.bh kid) l).size ≤ (foAt K.re kid (l + 1)).size
      rw [e2, fo1 hp, ← hn, foAt_eq hp]; simp only [F.size]; omega
  | nextZero => intro hS _; exact Gd.reflT hS _ _
  | @nextMemo S k at_ h =>
    intro hS _
    obtain ⟨⟨e, he, _⟩, hnd, _⟩ := stG_spec (chunks (K.proj S.cs)) S.ts 0 hS.nd
    have h2 : FrsOk K (K.code S).2 := ⟨hS.fr, hS.ch, hS.sp, hnd, hS.up, hS.fn⟩
    exact (Gd.refl h2 _).preT (S0 := S) (k := 0) ⟨[], by simp [SrE.code]⟩ ⟨e, he⟩ rfl (Nat.le_refl _)
  | @nextGo S S2 k at_ f b hn hf h ih =>
    intro hS ⟨hu, hat⟩
    have hup := hS.ch k f hf
    have hk := (List.getElem?_eq_some_iff.1 hf).1
    obtain ⟨⟨e, he, _⟩, hnd, hdec⟩ := stG_spec (chunks (K.proj S.cs)) S.ts 0 hS.nd
    have hfm := List.mem_of_getElem? hf
    have g := ih (⟨hS.fr, hS.ch, hS.sp, hnd, hS.up, hS.fn⟩ : FrsOk K { (K.code S).2 with wk := S.wk + 1 }) ⟨⟨hS.fr f hfm, hS.up f hfm⟩, by show f.up ≤ S.fs.length; omega, hat⟩
    obtain ⟨z, hz⟩ := g.2.2.1
    have g' : Gd K S S2 (K.fRk S.fs f at_) (K.cst f) b := (g.preT (S0 := S) (k := 0) ⟨[], by simp [SrE.code]⟩ ⟨e, he⟩ rfl (Nat.le_refl _))
    refine g'.point hS hf hn ?_ hat ⟨S.cs, hS.sp, by rw [hz]; exact hdec.mono⟩
    show K.fRk S.fs f at_ < K.rk S.fs (k + 1) at_ + 1
    rw [rk_frm hS hf]; omega
  | bodyCat hx ho h ih => intro hS ⟨h1, h2, h3⟩; exact ih hS ⟨h1, h2, h3, _, hx, ho⟩
  | bodyRep hx ho h ih => intro hS ⟨h1, h2, h3⟩; exact ih hS ⟨h1, h2, h3, _, hx, ho⟩
  | @bodyGrpY S S' f at_ x hx h4 h6 h ih =>
    intro hS ⟨h1, h2, h3⟩
    have g := ih (hS.cs rfl rfl (set_ok hS h1.1 hx h4 h6)) ⟨h2, h3⟩
    refine (g.pre (S0 := S) (k := 0) ⟨[], by simp⟩ rfl rfl (Nat.le_refl _)).mono ?_ (Nat.zero_le _)
    show K.rk S.fs f.up at_ + 1 ≤ K.fRk S.fs f at_
    rw [fRk7 hx h4 h6]; omega
  | @bodyGrpN S S' f at_ x hx h4 h6 h ih =>
    intro hS ⟨h1, h2, h3⟩
    have g := ih (hS.cs rfl rfl (set_ok hS h1.1 hx h4 h6)) ⟨h2, h3⟩
    refine ((g.pre (S0 := S) (k := 0) ⟨[], by simp⟩ rfl rfl (Nat.le_refl _)).mono ?_ (Nat.zero_le _)).post (fun s hs => (List.mem_or_eq_of_mem_set hs).elim (g.1.sp s) fun e => by rw [e]; exact getD_ok hS.sp) rfl rfl rfl rfl
    show K.rk S.fs f.up at_ + 1 ≤ K.fRk S.fs f at_
    rw [fRk7 hx h4 h6]; omega
  | rowZN hl he => intro hS _; exact (Gd.refl hS _).mono (Nat.le_refl _) (Nat.zero_le _)
  | @rowZ S S' f at_ b hl he h ih =>
    intro hS ⟨h1, h2, h3, x, hx, ho⟩
    have g := ih hS ⟨h2, h3⟩
    refine g.mono ?_ (Nat.zero_le _)
    show K.rk S.fs f.up at_ + 1 ≤ K.fRk S.fs f at_
    rw [fRk4 hx ho, he]; omega
  | @rowS S S1 S' f at_ u l b hl hpu h ih =>
    intro hS ⟨h1, h2, h3, x, hx, ho⟩
    have hfu := frU_row h1.2 hx ho hl
    have h1c := h1
    obtain ⟨⟨x', ks, e, hp, hto, hc⟩, hU⟩ := h1
    have e0 := hp.head.1
    rw [hx] at e0
    obtain rfl := Option.some.inj e0
    obtain ⟨_, g, e2, hpg, hgn⟩ : x.op = 4 ∧ ∃ g e2, Part K.re g f.kid e2 ∧ g.num = f.left := by rcases hc with h | h | h; (· exact h); (· omega); (· omega)
    obtain ⟨y, js, r, rfl⟩ : ∃ y js r, g = F.nd y js r := by cases g with
      | nil => simp only [F.num] at hgn; omega
      | nd y a c => exact ⟨y, a, c, rfl⟩
    have hbh : K.bh f.kid = f.kid + 1 + js.size := by unfold SrE.bh; rw [fo1 hpg]; simp only [F.size]; omega
    have hfr : FrOk K { f with kid := K.bh f.kid, left := l, fr := 0 } := ⟨x, ks, e, hp, hto, .inl ⟨ho, r, _, by show Part K.re r (K.bh f.kid) e2; rw [hbh]; exact hpg.head.2.2, by show r.num = l; simp only [F.num] at hgn; omega⟩⟩
    obtain ⟨hS2, hx2, hF2, hfu2, hts2, k, rfl, hg⟩ := push_gd hpu hS hfr hfu h2
    obtain ⟨a, ha⟩ := hx2
    have hu2 : f.up ≤ S1.fs.length := by rw [ha, List.length_append]; omega
    have := ih hS2 ⟨⟨h1c.1, by rw [ha]; exact h1c.2.ext⟩, hu2, h3, ⟨x, hx, ho⟩, l, k, hl, rfl, hg, fun e he => mem_ends.1 he⟩
    refine (this.pre (k := 0) ⟨a, ha⟩ hts2 hF2 (by omega)).mono ?_ ?_
    · show K.fRk S1.fs f at_ ≤ K.fRk S.fs f at_
      rw [fRkx hS hS2 ⟨a, ha⟩ h2]; exact Nat.le_refl _
    · show (ends at_ f.to).length * (foAt K.re f.kid 1).size + 0 ≤ K.cst f
      rw [SrE.cst, hx]
      simp only [ho, if_true]
      rw [if_neg (by omega), ends_length]
      exact Nat.mul_le_mul_right _ (by omega)
  | rowLNil => intro hS _; exact (Gd.refl hS _).mono (Nat.le_refl _) (Nat.zero_le _)
  | @rowLYes S S' f u at_ e es h ih =>
    intro hS ⟨h1, h2, h3, ⟨x, hx, ho⟩, l, k, hl, hu, hg, hes⟩
    exact (row_take hS h1 h2 hx ho hl hu hg (hes e List.mem_cons_self) ih).mono (Nat.le_refl _) (Nat.le_mul_of_pos_left _ (by simp))
  | @rowLLast S S' f u at_ e es hl1 h ih =>
    intro hS ⟨h1, h2, h3, ⟨x, hx, ho⟩, l, k, hl, hu, hg, hes⟩
    exact (row_take hS h1 h2 hx ho hl hu hg (hes e List.mem_cons_self) ih).mono (Nat.le_refl _) (Nat.le_mul_of_pos_left _ (by simp))
  | @rowLNo S S1 S' f u at_ e es b hl1 h h' ih ih' =>
    intro hS ⟨h1, h2, h3, ⟨x, hx, ho⟩, l, k, hl, hu, hg, hes⟩
    have g1 := row_take hS h1 h2 hx ho hl hu hg (hes e List.mem_cons_self) ih
    obtain ⟨a, ha⟩ := g1.2.1
    have g2 := ih' g1.1 ⟨⟨h1.1, by rw [ha]; exact h1.2.ext⟩, by rw [ha, List.length_append]; omega, h3, ⟨x, hx, ho⟩, l, k, hl, hu, by rw [ha, List.getElem?_append_left (List.getElem?_eq_some_iff.1 hg).1]; exact hg, fun e he => hes e (List.mem_cons_of_mem _ he)⟩
    refine (g1.trans (g2.mono ?_ (Nat.le_refl _))).mono (Nat.le_refl _) ?_
    · show K.fRk S1.fs f at_ ≤ K.fRk S.fs f at_
      rw [fRkx hS g1.1 g1.2.1 h2]; exact Nat.le_refl _
    · show (foAt K.re f.kid 1).size + es.length * (foAt K.re f.kid 1).size ≤ (e :: es).length * (foAt K.re f.kid 1).size
      rw [List.length_cons, Nat.succ_mul]; omega
  | @rndYes S S1 S' f at_ u x hx hm hpu h ih =>
    intro hS ⟨h1, h2, h3, x', hx', ho⟩
    obtain rfl : x = x' := by rw [hx] at hx'; exact Option.some.inj hx'
    obtain ⟨hS2, ⟨a, ha⟩, hF2, hfu2, hts2, k, rfl, hg⟩ := push_gd hpu hS (frOk_rnd h1.1 hx ho hm) (frU_rnd h1.2 hx ho hm) h2
    have := ih hS2 ⟨⟨h1.1, by rw [ha]; exact h1.2.ext⟩, by rw [ha, List.length_append]; omega, h3, x, k, hx, ho, hm, rfl, hg, fun e he => mem_ends.1 he⟩
    refine (this.pre (k := 0) ⟨a, ha⟩ hts2 hF2 (by omega)).mono ?_ (rnd_fc h1.1 hx ho)
    show K.fRk S1.fs f at_ ≤ K.fRk S.fs f at_
    rw [fRkx hS hS2 ⟨a, ha⟩ h2]; exact Nat.le_refl _
  | @rndEnd S S1 S2 S' f at_ u x b hx hm hpu h he h' ih ih' =>
    intro hS ⟨h1, h2, h3, x', hx', ho⟩
    obtain rfl : x = x' := by rw [hx] at hx'; exact Option.some.inj hx'
    obtain ⟨hS2, ⟨a, ha⟩, hF2, hfu2, hts2, k, rfl, hg⟩ := push_gd hpu hS (frOk_rnd h1.1 hx ho hm) (frU_rnd h1.2 hx ho hm) h2
    have g1 := ih hS2 ⟨⟨h1.1, by rw [ha]; exact h1.2.ext⟩, by rw [ha, List.length_append]; omega, h3, x, k, hx, ho, hm, rfl, hg, fun e he => mem_ends.1 he⟩
    have g1' : Gd K S S2 (K.fRk S.fs f at_) (K.cst f) false := (g1.pre (k := 0) ⟨a, ha⟩ hts2 hF2 (by omega)).mono (by show K.fRk S1.fs f at_ ≤ K.fRk S.fs f at_; rw [fRkx hS hS2 ⟨a, ha⟩ h2]; exact Nat.le_refl _) (rnd_fc h1.1 hx ho)
    obtain ⟨a', ha'⟩ := g1'.2.1
    have g2 := ih' g1'.1 ⟨by rw [ha', List.length_append]; omega, h3⟩
    refine (g1'.trans (g2.mono ?_ (Nat.le_refl _)))
    show K.rk S2.fs f.up at_ + 1 ≤ K.fRk S.fs f at_
    rw [rkx hS g1'.1 g1'.2.1 h2, fRk6 hx ho, he.1]; omega
  | @rndNo S S1 S2 f at_ u x hx hm hpu h he ih =>
    intro hS ⟨h1, h2, h3, x', hx', ho⟩
    obtain rfl : x = x' := by rw [hx] at hx'; exact Option.some.inj hx'
    obtain ⟨hS2, ⟨a, ha⟩, hF2, hfu2, hts2, k, rfl, hg⟩ := push_gd hpu hS (frOk_rnd h1.1 hx ho hm) (frU_rnd h1.2 hx ho hm) h2
    have g1 := ih hS2 ⟨⟨h1.1, by rw [ha]; exact h1.2.ext⟩, by rw [ha, List.length_append]; omega, h3, x, k, hx, ho, hm, rfl, hg, fun e he => mem_ends.1 he⟩
    exact (g1.pre (k := 0) ⟨a, ha⟩ hts2 hF2 (by omega)).mono (by show K.fRk S1.fs f at_ ≤ K.fRk S.fs f at_; rw [fRkx hS hS2 ⟨a, ha⟩ h2]; exact Nat.le_refl _) (rnd_fc h1.1 hx ho)
  | @rnd0End S S' f at_ x b hx hm he h' ih =>
    intro hS ⟨h1, h2, h3, x', hx', ho⟩
    obtain rfl : x = x' := by rw [hx] at hx'; exact Option.some.inj hx'
    have g := ih hS ⟨h2, h3⟩
    refine g.mono ?_ (Nat.zero_le _)
    show K.rk S.fs f.up at_ + 1 ≤ K.fRk S.fs f at_
    rw [fRk6 hx ho, he.1]; omega
  | rnd0No hx hm he => intro hS _; exact (Gd.refl hS _).mono (Nat.le_refl _) (Nat.zero_le _)
  | rndLNil => intro hS _; exact (Gd.refl hS _).mono (Nat.le_refl _) (Nat.zero_le _)
  | rndLBrk hx hb => intro hS _; exact (Gd.refl hS _).mono (Nat.le_refl _) (Nat.zero_le _)
  | @rndLYes S S' f u at_ e es x hx hb h ih =>
    intro hS ⟨h1, h2, h3, x', k, hx', ho, hm, hu, hg, hes⟩
    obtain rfl : x = x' := by rw [hx] at hx'; exact Option.some.inj hx'
    exact (rnd_take (S0 := { S with cs := fgt (K.inn (f.node + 1) (K.bh f.node)) S.cs }) hS h1 h2 hx ho hm hu hg (hes e List.mem_cons_self) hb rfl rfl rfl rfl (fgt_ok (.inl rfl) _ _ hS.sp) ih).mono (Nat.le_refl _) (Nat.le_mul_of_pos_left _ (by simp))
  | @rndLNo S S1 S' f u at_ e es x b hx hb h h' ih ih' =>
    intro hS ⟨h1, h2, h3, x', k, hx', ho, hm, hu, hg, hes⟩
    obtain rfl : x = x' := by rw [hx] at hx'; exact Option.some.inj hx'
    have g1 := rnd_take (S0 := { S with cs := fgt (K.inn (f.node + 1) (K.bh f.node)) S.cs }) hS h1 h2 hx ho hm hu hg (hes e List.mem_cons_self) hb rfl rfl rfl rfl (fgt_ok (.inl rfl) _ _ hS.sp) ih
    have g1' : Gd K S { S1 with cs := rst (K.inn (f.node + 1) (K.bh f.node)) (emW (K.inn (f.node + 1) (K.bh f.node)) S.cs) S1.cs } (K.fRk S.fs f at_) (foAt K.re (f.node + 1) 1).size false := g1.post (rst_ok (.inl rfl) _ _ _ (emW_ok (.inl rfl) _ _ hS.sp) g1.1.sp) rfl rfl rfl rfl
    obtain ⟨a, ha⟩ := g1'.2.1
    have g2 := ih' g1'.1 ⟨⟨h1.1, by rw [ha]; exact h1.2.ext⟩, by rw [ha, List.length_append]; omega, h3, x, k, hx, ho, hm, hu, by rw [ha, List.getElem?_append_left (List.getElem?_eq_some_iff.1 hg).1]; exact hg, fun e he => hes e (List.mem_cons_of_mem _ he)⟩
    refine (g1'.trans (g2.mono ?_ (Nat.le_refl _))).mono (Nat.le_refl _) ?_
    · show K.fRk S1.fs f at_ ≤ K.fRk S.fs f at_
      exact Nat.le_of_eq (fRkx hS g1.1 g1.2.1 h2)
    · show (foAt K.re (f.node + 1) 1).size + es.length * (foAt K.re (f.node + 1) 1).size ≤ (e :: es).length * (foAt K.re (f.node + 1) 1).size
      rw [List.length_cons, Nat.succ_mul]; omega
end
end Go.HL.Kl.Mc
namespace Go.HL.Kl.Mc
open Go Go.HL Go.HL.Kl AskE
def idxF (fs : List Frm) (g : Frm) : Nat := match fnd g fs with
  | some k => k + 1
  | none => 0
def enF (n : Nat) (fs : List Frm) : F → Bool → Nat → Nat → Nat → List Frm
  | .nil, _, _, _, _ => []
  | .nd x ks r, md, p, u, a =>
    let one : Nat → List Frm := fun u =>
      if x.op = 5 then enF n fs ks false (p + 1) u 0
      else if x.op = 4 then ((List.range (n + 1)).flatMap fun fr => (List.range (n + 1)).map fun to => (⟨u, p, p + 1, ks.num, fr, to⟩ : Frm)) ++ enF n fs ks true (p + 1) u p
      else if x.op = 6 then (List.range (n + 1)).flatMap fun to => (List.range (satM x + 1)).flatMap fun k => (⟨u, p, k, 0, 0, to⟩ : Frm) :: (if k = 0 then [] else enF n fs ks false (p + 1) (idxF fs ⟨u, p, k, 0, 0, to⟩) 0)
      else if x.op = 7 then (List.range (n + 1)).flatMap fun fr => (List.range (n + 1)).flatMap fun to => (⟨u, p, 0, 0, fr, to⟩ : Frm) :: enF n fs ks false (p + 1) (idxF fs ⟨u, p, 0, 0, fr, to⟩) 0
      else []
    if md = true then ((List.range (n + 1)).flatMap fun to => (⟨u, a, p + 1 + ks.size, r.num, 0, to⟩ : Frm) :: one (idxF fs ⟨u, a, p + 1 + ks.size, r.num, 0, to⟩)) ++ enF n fs r true (p + 1 + ks.size) u a
    else one u ++ enF n fs r false (p + 1 + ks.size) u a
def en1 (n : Nat) (fs : List Frm) (x : Nd) (ks : F) (p u : Nat) : List Frm :=
  if x.op = 5 then enF n fs ks false (p + 1) u 0
  else if x.op = 4 then ((List.range (n + 1)).flatMap fun fr => (List.range (n + 1)).map fun to => (⟨u, p, p + 1, ks.num, fr, to⟩ : Frm)) ++ enF n fs ks true (p + 1) u p
  else if x.op = 6 then (List.range (n + 1)).flatMap fun to => (List.range (satM x + 1)).flatMap fun k => (⟨u, p, k, 0, 0, to⟩ : Frm) :: (if k = 0 then [] else enF n fs ks false (p + 1) (idxF fs ⟨u, p, k, 0, 0, to⟩) 0)
  else if x.op = 7 then (List.range (n + 1)).flatMap fun fr => (List.range (n + 1)).flatMap fun to => (⟨u, p, 0, 0, fr, to⟩ : Frm) :: enF n fs ks false (p + 1) (idxF fs ⟨u, p, 0, 0, fr, to⟩) 0
  else []
section
variable {n : Nat} {fs : List Frm} {x y : Nd} {ks js r : F} {p u a s : Nat}
theorem enF_cat : enF n fs (.nd x ks r) true p u a = ((List.range (n + 1)).flatMap fun to => (⟨u, a, p + 1 + ks.size, r.num, 0, to⟩ : Frm) :: en1 n fs x ks p (idxF fs ⟨u, a, p + 1 + ks.size, r.num, 0, to⟩)) ++ enF n fs r true (p + 1 + ks.size) u a := by
  rw [enF]; rfl
theorem enF_alt : enF n fs (.nd x ks r) false p u a = en1 n fs x ks p u ++ enF n fs r false (p + 1 + ks.size) u a := by
  rw [enF]; rfl
theorem enF_one : enF n fs (.nd x ks .nil) false p u a = en1 n fs x ks p u := by rw [enF_alt, enF, List.append_nil]
theorem idx_of (hn : fs.Nodup) {k : Nat} {g : Frm} (h : fs[k]? = some g) : idxF fs g = k + 1 := by
  unfold idxF
  cases hf : fnd g fs with
  | none => exact absurd (List.mem_of_getElem? h) (fnd_none hf)
  | some q =>
    have h2 := fnd_some hf
    have := (List.getElem?_inj (List.getElem?_eq_some_iff.1 h).1 hn).1 (h.trans h2.symm)
    show q + 1 = k + 1
    omega
theorem RestAt.ge : ∀ {f g : F} {p q : Nat}, RestAt f p q g → p ≤ q ∧ g.num ≤ f.num
  | .nil, _, _, _, h => by obtain ⟨rfl, rfl⟩ := h; exact ⟨Nat.le_refl _, Nat.le_refl _⟩
  | .nd y js r, _, p, q, h => by
    rcases h with ⟨rfl, rfl⟩ | h
    · exact ⟨Nat.le_refl _, Nat.le_refl _⟩
    · obtain ⟨h1, h2⟩ := h.ge
      exact ⟨by omega, by simp only [F.num]; omega⟩
theorem RestAt.uniq : ∀ {f g g' : F} {p q q' : Nat}, RestAt f p q g → RestAt f p q' g' → g.num = g'.num → q = q' ∧ g = g'
  | .nil, _, _, _, _, _, h, h', _ => by obtain ⟨rfl, rfl⟩ := h; obtain ⟨rfl, rfl⟩ := h'; exact ⟨rfl, rfl⟩
  | .nd y js r, g, g', p, q, q', h, h', hn => by
    rcases h with ⟨rfl, rfl⟩ | h
    · rcases h' with ⟨rfl, rfl⟩ | h'
      · exact ⟨rfl, rfl⟩
      · have := h'.ge.2; simp only [F.num] at hn; omega
    · rcases h' with ⟨rfl, rfl⟩ | h'
      · have := h.ge.2; simp only [F.num] at hn; omega
      · exact h.uniq h' hn
theorem cat_mem {to : Nat} (ht : to ≤ n) : ∀ {ks : F} {p q : Nat} {g : F}, RestAt ks p q g → (q = p ∧ g = ks) ∨ (⟨u, a, q, g.num, 0, to⟩ : Frm) ∈ enF n fs ks true p u a
  | .nil, _, _, _, h => .inl ⟨h.1.symm, h.2⟩
  | .nd y js r, p, q, g, h => by
    rcases h with ⟨h1, h2⟩ | h
    · exact .inl ⟨h1.symm, h2⟩
    · right
      rw [enF_cat]
      rcases cat_mem ht h with ⟨rfl, rfl⟩ | h
      · exact List.mem_append_left _ (List.mem_flatMap.2 ⟨to, List.mem_range.2 (by omega), List.mem_cons_self⟩)
      · exact List.mem_append_right _ h
theorem own_mem {K : SrE} {f : Frm} {e : Nat} (h : ShOk K f) (hp : Part K.re (.nd x ks .nil) f.node e) : f ∈ en1 K.w.length fs x ks f.node f.up := by
  obtain ⟨x', ks', e', hp', hto, hfr, hc⟩ := h
  have h1 := hp.head.1
  rw [hp'.head.1] at h1
  obtain rfl := Option.some.inj h1
  obtain rfl := hp.uniq hp'
  obtain ⟨up, node, kid, left, fr, to⟩ := f
  dsimp only at *
  unfold en1
  rcases hc with ⟨ho, g, hr, hgn, hc⟩ | ⟨ho, hk, rfl, rfl⟩ | ⟨ho, rfl, rfl⟩
  · rw [if_neg (by omega), if_pos ho]
    subst hgn
    have first : ∀ {fr : Nat}, fr ≤ K.w.length → (⟨up, node, node + 1, ks.num, fr, to⟩ : Frm) ∈ ((List.range (K.w.length + 1)).flatMap fun fr => (List.range (K.w.length + 1)).map fun to => (⟨up, node, node + 1, ks.num, fr, to⟩ : Frm)) := fun {fr} hfr =>
      List.mem_flatMap.2 ⟨fr, List.mem_range.2 (by omega), List.mem_map.2 ⟨to, List.mem_range.2 (by omega), rfl⟩⟩
    rcases hc with rfl | ⟨rfl, hl⟩
    · rcases cat_mem (u := up) (a := node) (fs := fs) hto hr with ⟨rfl, rfl⟩ | h
      · exact List.mem_append_left _ (first (Nat.zero_le _))
      · exact List.mem_append_right _ h
    · rw [hl]; exact List.mem_append_left _ (first hfr)
  · rw [if_neg (by omega), if_neg (by omega), if_pos ho]
    exact List.mem_flatMap.2 ⟨to, List.mem_range.2 (by omega), List.mem_flatMap.2 ⟨kid, List.mem_range.2 (by omega), List.mem_cons_self⟩⟩
  · rw [if_neg (by omega), if_neg (by omega), if_neg (by omega), if_pos ho]
    exact List.mem_flatMap.2 ⟨fr, List.mem_range.2 (by omega), List.mem_flatMap.2 ⟨to, List.mem_range.2 (by omega), List.mem_cons_self⟩⟩
theorem rest_sub : ∀ {f : F} {p q : Nat} {y : Nd} {js r : F}, RestAt f p q (.nd y js r) → ∀ h ∈ en1 n fs y js q u, h ∈ enF n fs f false p u a
  | .nil, _, _, _, _, _, hr, _, _ => by cases hr.2
  | .nd z ls t, p, q, y, js, r, hr, h, hh => by
    rw [enF_alt]
    rcases hr with ⟨rfl, hr⟩ | hr
    · cases hr; exact List.mem_append_left _ hh
    · exact List.mem_append_right _ (rest_sub hr h hh)
theorem alt_sub {re : List Nd} (hA : AltR re s a) : ∀ {x y : Nd} {ks js : F} {e e' : Nat}, Part re (.nd x ks .nil) s e → Part re (.nd y js .nil) a e' → ∀ h ∈ en1 n fs y js a u, h ∈ en1 n fs x ks s u := by
  induction hA with
  | refl =>
    intro x y ks js e e' hp hp' h hh
    have h1 := hp.head.1
    rw [hp'.head.1] at h1
    obtain rfl := Option.some.inj h1
    obtain rfl := hp.uniq hp'
    exact hh
  | @step b q e1 z y1 ls js1 r1 hA hpz ho hr ih =>
    intro x y ks js e e' hp hp' h hh
    refine ih hp hpz h ?_
    obtain ⟨e2, hp2⟩ := hr.part hpz.head.2.1
    have h1 := hp2.head.1
    rw [hp'.head.1] at h1
    obtain rfl := Option.some.inj h1
    have h3 := hp2.one.uniq hp'
    subst h3
    unfold en1
    rw [if_pos ho]
    exact rest_sub hr h hh
end
end Go.HL.Kl.Mc
namespace Go.HL.Kl.Mc
open Go Go.HL Go.HL.Kl AskE
theorem same_nd {re : List Nd} {x y : Nd} {ks js r s : F} {i e e' : Nat} (h : Part re (.nd x ks r) i e) (h' : Part re (.nd y js s) i e') : x = y ∧ ks = js := by
  have h1 := h.head.1
  rw [h'.head.1] at h1
  exact ⟨(Option.some.inj h1).symm, h.uniq h'⟩
theorem en_close {K : SrE} {n : Nat} {fs : List Frm} (hn : fs.Nodup) : ∀ (f : F) (md : Bool) (p u a e : Nat), Part K.re f p e → (md = true → ∃ xA ksA eA, Part K.re (.nd xA ksA .nil) a eA ∧ xA.op = 4 ∧ RestAt ksA (a + 1) p f) →
    ∀ g ∈ enF n fs f md p u a, ∀ (k s : Nat) (y : Nd) (js : F) (e' : Nat), fs[k]? = some g → Slot K g s → Part K.re (.nd y js .nil) s e' → ∀ h ∈ en1 n fs y js s (k + 1), h ∈ enF n fs f md p u a
  | .nil, _, _, _, _, _, _, _ => fun g hg => by rw [enF] at hg; cases hg
  | .nd x ks r, md, p, u, a, e, hp, hA => by
    have one : ∀ u, ∀ g ∈ en1 n fs x ks p u, ∀ (k s : Nat) (y : Nd) (js : F) (e' : Nat), fs[k]? = some g → Slot K g s → Part K.re (.nd y js .nil) s e' → ∀ h ∈ en1 n fs y js s (k + 1), h ∈ en1 n fs x ks p u := by
      intro u g hg k s y js e' hk hs hy h hh
      unfold en1 at hg ⊢
      by_cases h5 : x.op = 5
      · rw [if_pos h5] at hg ⊢
        exact en_close hn ks false _ _ _ _ hp.head.2.1 (fun h => by cases h) g hg k s y js e' hk hs hy h hh
      rw [if_neg h5] at hg ⊢
      by_cases h4 : x.op = 4
      · rw [if_pos h4] at hg ⊢
        rcases List.mem_append.1 hg with hg | hg
        · obtain ⟨fr, _, hg⟩ := List.mem_flatMap.1 hg
          obtain ⟨to, _, rfl⟩ := List.mem_map.1 hg
          obtain ⟨x', ks', e2, hp', hc⟩ := hs
          obtain ⟨rfl, rfl⟩ := same_nd hp' hp
          rcases hc with ⟨_, y', js', r', hr, hkid, _⟩ | ⟨ho, _⟩
          · have := hr.ge.1
            dsimp only at hkid this
            omega
          · omega
        · exact List.mem_append_right _ (en_close hn ks true _ _ _ _ hp.head.2.1 (fun _ => ⟨x, ks, _, hp.one, h4, RestAt.refl⟩) g hg k s y js e' hk hs hy h hh)
      rw [if_neg h4] at hg ⊢
      by_cases h6 : x.op = 6
      · rw [if_pos h6] at hg ⊢
        obtain ⟨to, hto, hg⟩ := List.mem_flatMap.1 hg
        obtain ⟨q, hq, hg⟩ := List.mem_flatMap.1 hg
        refine List.mem_flatMap.2 ⟨to, hto, List.mem_flatMap.2 ⟨q, hq, ?_⟩⟩
        rcases List.mem_cons.1 hg with rfl | hg
        · obtain ⟨x', ks', e2, hp', hc⟩ := hs
          obtain ⟨rfl, rfl⟩ := same_nd hp' hp
          rcases hc with ⟨ho, _⟩ | ⟨hq1, rfl⟩
          · omega
          · have hq1 : 1 ≤ q := by rcases hq1 with h | h; (· exact h.2); (· omega)
            refine List.mem_cons_of_mem _ ?_
            rw [if_neg (by omega), idx_of hn hk]
            obtain ⟨z, ls, rfl⟩ := one_kid hp'.wf (.inl h6)
            obtain ⟨rfl, rfl⟩ := same_nd hy hp'.head.2.1
            rw [enF_one]; exact hh
        · by_cases hq0 : q = 0
          · rw [if_pos hq0] at hg; cases hg
          · rw [if_neg hq0] at hg ⊢
            exact List.mem_cons_of_mem _ (en_close hn ks false _ _ _ _ hp.head.2.1 (fun h => by cases h) g hg k s y js e' hk hs hy h hh)
      rw [if_neg h6] at hg ⊢
      by_cases h7 : x.op = 7
      · rw [if_pos h7] at hg ⊢
        obtain ⟨fr, hfr, hg⟩ := List.mem_flatMap.1 hg
        obtain ⟨to, hto, hg⟩ := List.mem_flatMap.1 hg
        refine List.mem_flatMap.2 ⟨fr, hfr, List.mem_flatMap.2 ⟨to, hto, ?_⟩⟩
        rcases List.mem_cons.1 hg with rfl | hg
        · obtain ⟨x', ks', e2, hp', hc⟩ := hs
          obtain ⟨rfl, rfl⟩ := same_nd hp' hp
          rcases hc with ⟨ho, _⟩ | ⟨_, rfl⟩
          · omega
          · refine List.mem_cons_of_mem _ ?_
            rw [idx_of hn hk]
            obtain ⟨z, ls, rfl⟩ := one_kid hp'.wf (.inr h7)
            obtain ⟨rfl, rfl⟩ := same_nd hy hp'.head.2.1
            rw [enF_one]; exact hh
        · exact List.mem_cons_of_mem _ (en_close hn ks false _ _ _ _ hp.head.2.1 (fun h => by cases h) g hg k s y js e' hk hs hy h hh)
      rw [if_neg h7] at hg; cases hg
    intro g hg k s y js e' hk hs hy h hh
    cases md with
    | false =>
      rw [enF_alt] at hg ⊢
      rcases List.mem_append.1 hg with hg | hg
      · exact List.mem_append_left _ (one u g hg k s y js e' hk hs hy h hh)
      · exact List.mem_append_right _ (en_close hn r false _ _ _ _ hp.head.2.2 (fun h => by cases h) g hg k s y js e' hk hs hy h hh)
    | true =>
      obtain ⟨xA, ksA, eA, hpA, h4, hrA⟩ := hA rfl
      rw [enF_cat] at hg ⊢
      rcases List.mem_append.1 hg with hg | hg
      · refine List.mem_append_left _ ?_
        obtain ⟨to, hto, hg⟩ := List.mem_flatMap.1 hg
        refine List.mem_flatMap.2 ⟨to, hto, ?_⟩
        rcases List.mem_cons.1 hg with rfl | hg
        · obtain ⟨x', ks', e2, hp', hc⟩ := hs
          obtain ⟨rfl, rfl⟩ := same_nd hp' hpA
          rcases hc with ⟨_, y', js', r', hr, hkid, hleft, _⟩ | ⟨ho, _⟩
          · have hu := hr.uniq hrA (by simp only [F.num]; dsimp only at hleft; omega)
            obtain ⟨rfl, h2⟩ := hu
            cases h2
            obtain ⟨rfl, rfl⟩ := same_nd hy hp
            refine List.mem_cons_of_mem _ ?_
            rw [idx_of hn hk]; exact hh
          · omega
        · exact List.mem_cons_of_mem _ (one _ g hg k s y js e' hk hs hy h hh)
      · exact List.mem_append_right _ (en_close hn r true _ _ _ _ hp.head.2.2 (fun _ => ⟨xA, ksA, eA, hpA, h4, hrA.next⟩) g hg k s y js e' hk hs hy h hh)
theorem slot_part {K : SrE} {g : Frm} {s : Nat} (h : Slot K g s) : ∃ y js e, Part K.re (.nd y js .nil) s e := by
  obtain ⟨x, ks, e, hp, hc⟩ := h
  rcases hc with ⟨_, y, js, r, hr, _⟩ | ⟨ho, rfl⟩
  · obtain ⟨e2, hp2⟩ := hr.part hp.head.2.1
    exact ⟨y, js, _, hp2.one⟩
  · obtain ⟨y, js, rfl⟩ := one_kid hp.wf (by rcases ho with h | h; (· exact .inl h.1); (· exact .inr h))
    exact ⟨y, js, _, hp.head.2.1⟩
theorem en_all {K : SrE} {S : SS} (hS : FrsOk K S) {x : Nd} {ks : F} {e : Nat} (hp : Part K.re (.nd x ks .nil) 0 e) : ∀ (k : Nat) (f : Frm), S.fs[k]? = some f → f ∈ en1 K.w.length S.fs x ks 0 0 := by
  intro k
  induction k using Nat.strongRecOn with
  | ind k ih =>
    intro f hf
    obtain ⟨hsh, s, hu, hA⟩ := hS.up f (List.mem_of_getElem? hf)
    have hsh' := hsh
    obtain ⟨x2, ks2, e2, hp2, _⟩ := hsh'
    have hown := own_mem (fs := S.fs) hsh hp2
    rcases hu with ⟨hu0, rfl⟩ | ⟨k', g, hu1, hg, hsl⟩
    · rw [hu0] at hown
      exact alt_sub hA hp hp2 f hown
    · obtain ⟨y, js, e3, hy⟩ := slot_part hsl
      have hk' : k' < k := by have := hS.ch k f hf; omega
      rw [hu1] at hown
      have h1 := alt_sub hA hy hp2 f hown
      have h2 := ih k' hk' g hg
      rw [← enF_one (a := 0)] at h2 ⊢
      exact en_close hS.fn (.nd x ks .nil) false 0 0 0 e hp (fun h => by cases h) g h2 k' s y js e3 hg hsl hy f h1
theorem fm_le {α β : Type} {g : β → Nat} {f : α → List β} {B : Nat} : ∀ {l : List α}, (∀ t ∈ l, ((f t).map g).sum ≤ B) → ((l.flatMap f).map g).sum ≤ l.length * B
  | [], _ => by simp
  | t :: l, h => by
    rw [List.flatMap_cons, List.map_append, List.sum_append, List.length_cons, Nat.succ_mul]
    have h1 := h t List.mem_cons_self
    have h2 := fm_le (l := l) fun t ht => h t (List.mem_cons_of_mem _ ht)
    omega
theorem map_le {α β : Type} {g : β → Nat} {f : α → β} {B : Nat} {l : List α} (h : ∀ t ∈ l, g (f t) ≤ B) : ((l.map f).map g).sum ≤ l.length * B := by
  induction l with
  | nil => simp
  | cons t l ih =>
    rw [List.map_cons, List.map_cons, List.sum_cons, List.length_cons, Nat.succ_mul]
    have h1 := h t List.mem_cons_self
    have h2 := ih fun t ht => h t (List.mem_cons_of_mem _ ht)
    omega
/-! the arithmetic -/
theorem ar_cat {n w P : Nat} (h : w = 0 ∨ (n + 2) * (n + 2) * (n + 2) ≤ P) : (n + 1) * ((n + 1) * ((n + 1) * w)) + (n + 1) * ((n + 1) * w + w * P) ≤ w * ((n + 2) * (n + 2) * P) := by
  rcases h with rfl | h
  · simp
  have h1 : (n + 1) * (n + 1) * (n + 2) ≤ (n + 2) * (n + 2) * (n + 2) := Nat.mul_le_mul_right _ (Nat.mul_le_mul (by omega) (by omega))
  have e1 : (n + 1) * ((n + 1) * ((n + 1) * w)) + (n + 1) * ((n + 1) * w + w * P) = w * ((n + 1) * (n + 1) * (n + 2) + (n + 1) * P) := by
    have e0 : (n + 1) * (n + 1) * (n + 2) = (n + 1) * ((n + 1) * (n + 1)) + (n + 1) * (n + 1) := by rw [show n + 2 = (n + 1) + 1 by omega, Nat.mul_add, Nat.mul_one, Nat.mul_comm]
    rw [e0]
    generalize n + 1 = q
    simp only [Nat.mul_add, Nat.mul_comm, Nat.mul_left_comm, Nat.add_assoc]
  rw [e1]
  refine Nat.mul_le_mul_left _ ?_
  have h2 : (n + 2) * P ≤ (n + 2) * (n + 2) * P := by rw [Nat.mul_assoc]; exact Nat.mul_le_mul_left _ (Nat.le_mul_of_pos_left _ (by omega))
  have h3 : (n + 2) * P = (n + 1) * P + P := by rw [show n + 2 = (n + 1) + 1 by omega, Nat.succ_mul]
  omega
theorem ar_rep {n w P m t : Nat} (hm : m + 1 ≤ 2 * t) (h : w = 0 ∨ (n + 2) * (n + 2) * (n + 2) ≤ P) : (n + 1) * ((m + 1) * ((n + 1) * w + w * P)) ≤ t * w * ((n + 2) * (n + 2) * P) := by
  rcases h with rfl | h
  · simp
  have h0 : (n + 1) * ((m + 1) * ((n + 1) * w + w * P)) ≤ (n + 1) * (2 * t * ((n + 1) * w + w * P)) := Nat.mul_le_mul_left _ (Nat.mul_le_mul_right _ hm)
  refine Nat.le_trans h0 ?_
  have e1 : (n + 1) * (2 * t * ((n + 1) * w + w * P)) = t * w * (2 * ((n + 1) * (n + 1)) + 2 * ((n + 1) * P)) := by
    generalize n + 1 = q
    simp only [Nat.mul_add]
    congr 1 <;> ac_rfl
  rw [e1]
  refine Nat.mul_le_mul_left _ ?_
  have h1 : 2 * ((n + 1) * (n + 1)) ≤ (n + 2) * (n + 2) * (n + 2) := by
    have : (n + 1) * (n + 1) ≤ (n + 2) * (n + 2) := Nat.mul_le_mul (by omega) (by omega)
    calc 2 * ((n + 1) * (n + 1)) ≤ 2 * ((n + 2) * (n + 2)) := by omega
      _ ≤ (n + 2) * ((n + 2) * (n + 2)) := Nat.mul_le_mul_right _ (by omega)
      _ = (n + 2) * (n + 2) * (n + 2) := Nat.mul_comm _ _
  have h2 : (2 * (n + 1) + 1) * P ≤ (n + 2) * (n + 2) * P := Nat.mul_le_mul_right _ (by
    have : (n + 2) * (n + 2) = n * n + 4 * n + 4 := by simp only [Nat.mul_add, Nat.add_mul]; omega
    have h0 : 0 ≤ n * n := Nat.zero_le _
    omega)
  rw [Nat.add_mul, Nat.one_mul, Nat.mul_assoc] at h2
  omega
theorem ar_grp {n w P : Nat} : (n + 1) * ((n + 1) * (w * P)) ≤ w * ((n + 2) * (n + 2) * P) := by
  have e1 : (n + 1) * ((n + 1) * (w * P)) = w * ((n + 1) * (n + 1) * P) := by simp only [Nat.mul_comm, Nat.mul_left_comm, Nat.mul_assoc]
  rw [e1]
  exact Nat.mul_le_mul_left _ (Nat.mul_le_mul_right _ (Nat.mul_le_mul (by omega) (by omega)))
theorem sat_times {x : Nd} (h : x.op = 6) : satM x + 1 ≤ 2 * times x := by
  unfold satM times
  rw [if_pos h]
  split <;> omega
def potN (n d : Nat) : Nat := (n + 2) ^ (2 * d + 1)
theorem potN_succ {n d : Nat} : potN n (d + 1) = (n + 2) * (n + 2) * potN n d := by
  unfold potN
  rw [show 2 * (d + 1) + 1 = (2 * d + 1) + 1 + 1 by omega, Nat.pow_succ, Nat.pow_succ, Nat.mul_comm, Nat.mul_comm _ (n + 2), Nat.mul_assoc]
theorem potN_mono {n d e : Nat} (h : d ≤ e) : potN n d ≤ potN n e := Nat.pow_le_pow_right (by omega) (by omega)
theorem potN_big {n : Nat} {f : F} : f.weight = 0 ∨ (n + 2) * (n + 2) * (n + 2) ≤ potN n f.depth := by
  cases f with
  | nil => exact .inl rfl
  | nd x ks r =>
    right
    have h1 : potN n 1 ≤ potN n (F.nd x ks r).depth := potN_mono (by simp only [F.depth]; omega)
    have e : potN n 1 = (n + 2) * (n + 2) * (n + 2) := by unfold potN; simp [Nat.pow_succ]
    omega
def hdS : F → Nat
  | .nil => 0
  | .nd _ ks _ => ks.size + 1
theorem hdS_le {f : F} : hdS f ≤ f.weight := by
  cases f with
  | nil => exact Nat.le_refl _
  | nd x ks r =>
    have h1 := F.size_weight (F.nd x ks .nil)
    simp only [F.size, F.weight, Nat.add_zero] at h1
    simp only [hdS, F.weight]; omega
section
variable {K : SrE} {fs : List Frm}
theorem cst_cat {f : Frm} {x : Nd} {g : F} {e : Nat} (hx : K.re[f.node]? = some x) (ho : x.op = 4) (hg : Part K.re g f.kid e) (hn : g.num = f.left) : K.cst f ≤ (K.w.length + 1) * hdS g := by
  rw [SrE.cst, hx]
  simp only [ho, if_true]
  cases g with
  | nil => rw [if_pos (by simp only [F.num] at hn; omega)]; exact Nat.zero_le _
  | nd y js r =>
    rw [if_neg (by simp only [F.num] at hn; omega), fo1 hg]
    simp only [F.size, hdS, Nat.add_zero]
    exact Nat.mul_le_mul_left _ (by omega)
theorem cst_rep {f : Frm} {x : Nd} {ks : F} {e : Nat} (hp : Part K.re (.nd x ks .nil) f.node e) (ho : x.op = 6) : K.cst f ≤ (K.w.length + 1) * ks.weight := by
  rw [SrE.cst, hp.head.1]
  simp only [ho]
  rw [if_neg (by decide), if_pos trivial]
  obtain ⟨y, js, rfl⟩ := one_kid hp.wf (.inl ho)
  rw [fo1 hp.head.2.1]
  exact Nat.mul_le_mul_left _ (F.size_weight _)
theorem cst_grp {f : Frm} {x : Nd} (hx : K.re[f.node]? = some x) (ho : x.op = 7) : K.cst f = 0 := by
  rw [SrE.cst, hx]
  simp only [ho]
  rw [if_neg (by decide), if_neg (by decide)]
theorem en_sum : ∀ (f : F) (p u a e : Nat), Part K.re f p e →
    ((enF K.w.length fs f false p u a).map K.cst).sum ≤ f.weight * potN K.w.length f.depth ∧
    ((∃ xA, K.re[a]? = some xA ∧ xA.op = 4) → ((enF K.w.length fs f true p u a).map K.cst).sum ≤ (K.w.length + 1) * ((K.w.length + 1) * (f.weight - hdS f) + f.weight * potN K.w.length f.depth))
  | .nil, p, u, a, e, _ => by
    constructor
    · rw [enF]; simp
    · intro _; rw [enF]; simp
  | .nd x ks r, p, u, a, e, hp => by
    have hks := hp.head.2.1
    have hr := hp.head.2.2
    have hb := potN_big (n := K.w.length) (f := ks)
    have one : ∀ u, ((en1 K.w.length fs x ks p u).map K.cst).sum ≤ times x * ks.weight * potN K.w.length (ks.depth + 1) := by
      intro u
      rw [potN_succ]
      unfold en1
      by_cases h5 : x.op = 5
      · rw [if_pos h5]
        refine Nat.le_trans (en_sum ks _ _ _ _ hks).1 ?_
        have ht : times x = 1 := by unfold times; rw [if_neg (by omega)]
        rw [ht, Nat.one_mul]
        refine Nat.mul_le_mul_left _ ?_
        exact Nat.le_mul_of_pos_left _ (Nat.mul_pos (by omega) (by omega))
      rw [if_neg h5]
      by_cases h4 : x.op = 4
      · rw [if_pos h4, List.map_append, List.sum_append]
        have ht : times x = 1 := by unfold times; rw [if_neg (by omega)]
        rw [ht, Nat.one_mul]
        refine Nat.le_trans (Nat.add_le_add ?_ (Nat.le_trans ((en_sum ks (p + 1) u p _ hks).2 ⟨x, hp.head.1, h4⟩) (Nat.mul_le_mul_left _ (Nat.add_le_add_right (Nat.mul_le_mul_left _ (Nat.sub_le _ _)) _)))) (ar_cat hb)
        refine Nat.le_trans (fm_le (B := (K.w.length + 1) * ((K.w.length + 1) * ks.weight)) fun fr _ => ?_) (by rw [List.length_range]; exact Nat.le_refl _)
        refine Nat.le_trans (map_le (B := (K.w.length + 1) * ks.weight) fun to _ => ?_) (by rw [List.length_range]; exact Nat.le_refl _)
        exact Nat.le_trans (cst_cat (f := ⟨u, p, p + 1, ks.num, fr, to⟩) hp.head.1 h4 hks rfl) (Nat.mul_le_mul_left _ hdS_le)
      rw [if_neg h4]
      by_cases h6 : x.op = 6
      · rw [if_pos h6]
        refine Nat.le_trans (fm_le (B := (satM x + 1) * ((K.w.length + 1) * ks.weight + ks.weight * potN K.w.length ks.depth)) fun to _ => ?_) (by rw [List.length_range]; exact ar_rep (sat_times h6) hb)
        refine Nat.le_trans (fm_le (B := (K.w.length + 1) * ks.weight + ks.weight * potN K.w.length ks.depth) fun q _ => ?_) (by rw [List.length_range]; exact Nat.le_refl _)
        rw [List.map_cons, List.sum_cons]
        refine Nat.add_le_add (cst_rep (f := ⟨u, p, q, 0, 0, to⟩) hp.one h6) ?_
        split
        · simp
        · exact (en_sum ks _ _ _ _ hks).1
      rw [if_neg h6]
      by_cases h7 : x.op = 7
      · rw [if_pos h7]
        have ht : times x = 1 := by unfold times; rw [if_neg (by omega)]
        rw [ht, Nat.one_mul]
        refine Nat.le_trans (fm_le (B := (K.w.length + 1) * (ks.weight * potN K.w.length ks.depth)) fun fr _ => ?_) (by rw [List.length_range]; exact ar_grp)
        refine Nat.le_trans (fm_le (B := ks.weight * potN K.w.length ks.depth) fun to _ => ?_) (by rw [List.length_range]; exact Nat.le_refl _)
        rw [List.map_cons, List.sum_cons, cst_grp (f := ⟨u, p, 0, 0, fr, to⟩) hp.head.1 h7, Nat.zero_add]
        exact (en_sum ks _ _ _ _ hks).1
      rw [if_neg h7]; simp
    have hd1 : potN K.w.length (ks.depth + 1) ≤ potN K.w.length (F.nd x ks r).depth := potN_mono (by simp only [F.depth]; omega)
    have hd2 : potN K.w.length r.depth ≤ potN K.w.length (F.nd x ks r).depth := potN_mono (by simp only [F.depth]; omega)
    have one' : ∀ u, ((en1 K.w.length fs x ks p u).map K.cst).sum ≤ times x * ks.weight * potN K.w.length (F.nd x ks r).depth := fun u => Nat.le_trans (one u) (Nat.mul_le_mul_left _ hd1)
    have hw : (F.nd x ks r).weight = 1 + times x * ks.weight + r.weight := rfl
    constructor
    · rw [enF_alt, List.map_append, List.sum_append, hw, Nat.add_mul, Nat.add_mul]
      have h1 := one' u
      have h2 := Nat.le_trans (en_sum r (p + 1 + ks.size) u a _ hr).1 (Nat.mul_le_mul_left _ hd2)
      omega
    · rintro ⟨xA, hxA, h4⟩
      rw [enF_cat, List.map_append, List.sum_append]
      have h2 := Nat.le_trans ((en_sum r (p + 1 + ks.size) u a _ hr).2 ⟨xA, hxA, h4⟩) (Nat.mul_le_mul_left _ (Nat.add_le_add_left (Nat.mul_le_mul_left _ hd2) _))
      have h1 : (((List.range (K.w.length + 1)).flatMap fun to => (⟨u, a, p + 1 + ks.size, r.num, 0, to⟩ : Frm) :: en1 K.w.length fs x ks p (idxF fs ⟨u, a, p + 1 + ks.size, r.num, 0, to⟩)).map K.cst).sum ≤ (K.w.length + 1) * ((K.w.length + 1) * hdS r + times x * ks.weight * potN K.w.length (F.nd x ks r).depth) := by
        refine Nat.le_trans (fm_le (B := (K.w.length + 1) * hdS r + times x * ks.weight * potN K.w.length (F.nd x ks r).depth) fun to _ => ?_) (by rw [List.length_range]; exact Nat.le_refl _)
        rw [List.map_cons, List.sum_cons]
        exact Nat.add_le_add (cst_cat (f := ⟨u, a, p + 1 + ks.size, r.num, 0, to⟩) hxA h4 hr rfl) (one' _)
      refine Nat.le_trans (Nat.add_le_add h1 h2) ?_
      rw [← Nat.mul_add]
      refine Nat.mul_le_mul_left _ ?_
      have ht : 1 ≤ times x := by unfold times; split <;> (try split) <;> omega
      have hsz : ks.size ≤ times x * ks.weight := Nat.le_trans (F.size_weight ks) (Nat.le_mul_of_pos_left _ ht)
      have hhr := hdS_le (f := r)
      have h3 : (K.w.length + 1) * hdS r + (K.w.length + 1) * (r.weight - hdS r) ≤ (K.w.length + 1) * ((F.nd x ks r).weight - hdS (F.nd x ks r)) := by
        rw [← Nat.mul_add]
        refine Nat.mul_le_mul_left _ ?_
        rw [hw, show hdS (F.nd x ks r) = ks.size + 1 from rfl]; omega
      have h4 : times x * ks.weight * potN K.w.length (F.nd x ks r).depth + r.weight * potN K.w.length (F.nd x ks r).depth ≤ (F.nd x ks r).weight * potN K.w.length (F.nd x ks r).depth := by
        rw [← Nat.add_mul]
        exact Nat.mul_le_mul_right _ (by rw [hw]; omega)
      omega
end
end Go.HL.Kl.Mc
