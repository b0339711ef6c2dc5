/- Back-references: how many takes a whole search has: each frame is among those listed. Conditions: none. -/
import Derived.Test.YtloepfcndglmmaaDoorBF1Z
import Derived.Test.YtloepfcndglmmaaDoorBE1Z
namespace Go.HL.Kl.Mc
open Go Go.HL Go.HL.Kl AskE
theorem same_nd {re : List Nd} {x y : Nd} {ks js r s : F} {i e e' : Nat} (h : Part re (.nd x ks r) i e) (h' : Part re (.nd y js s) i e') : x = y ∧ ks = js := by
  have h1 := h.head.1
  rw [h'.head.1] at h1
  exact ⟨(Option.some.inj h1).symm, h.uniq h'⟩
theorem en_close {K : SrE} {n : Nat} {fs : List Frm} (hn : fs.Nodup) : ∀ (f : F) (md : Bool) (p u a e : Nat), Part K.re f p e → (md = true → ∃ xA ksA eA, Part K.re (.nd xA ksA .nil) a eA ∧ xA.op = 4 ∧ RestAt ksA (a + 1) p f) →
    ∀ g ∈ enF n fs f md p u a, ∀ (k s : Nat) (y : Nd) (js : F) (e' : Nat), fs[k]? = some g → Slot K g s → Part K.re (.nd y js .nil) s e' → ∀ h ∈ en1 n fs y js s (k + 1), h ∈ enF n fs f md p u a
  | .nil, _, _, _, _, _, _, _ => fun g hg => by rw [enF] at hg; cases hg
  | .nd x ks r, md, p, u, a, e, hp, hA => by
    have one : ∀ u, ∀ g ∈ en1 n fs x ks p u, ∀ (k s : Nat) (y : Nd) (js : F) (e' : Nat), fs[k]? = some g → Slot K g s → Part K.re (.nd y js .nil) s e' → ∀ h ∈ en1 n fs y js s (k + 1), h ∈ en1 n fs x ks p u := by
      intro u g hg k s y js e' hk hs hy h hh
      unfold en1 at hg ⊢
      by_cases h5 : x.op = 5
      · rw [if_pos h5] at hg ⊢
        exact en_close hn ks false _ _ _ _ hp.head.2.1 (fun h => by cases h) g hg k s y js e' hk hs hy h hh
      rw [if_neg h5] at hg ⊢
      by_cases h4 : x.op = 4
      · rw [if_pos h4] at hg ⊢
        rcases List.mem_append.1 hg with hg | hg
        · obtain ⟨fr, _, hg⟩ := List.mem_flatMap.1 hg
          obtain ⟨to, _, rfl⟩ := List.mem_map.1 hg
          obtain ⟨x', ks', e2, hp', hc⟩ := hs
          obtain ⟨rfl, rfl⟩ := same_nd hp' hp
          rcases hc with ⟨_, y', js', r', hr, hkid, _⟩ | ⟨ho, _⟩
          · have := hr.ge.1
            dsimp only at hkid this
            omega
          · omega
        · exact List.mem_append_right _ (en_close hn ks true _ _ _ _ hp.head.2.1 (fun _ => ⟨x, ks, _, hp.one, h4, RestAt.refl⟩) g hg k s y js e' hk hs hy h hh)
      rw [if_neg h4] at hg ⊢
      by_cases h6 : x.op = 6
      · rw [if_pos h6] at hg ⊢
        obtain ⟨to, hto, hg⟩ := List.mem_flatMap.1 hg
        obtain ⟨q, hq, hg⟩ := List.mem_flatMap.1 hg
        refine List.mem_flatMap.2 ⟨to, hto, List.mem_flatMap.2 ⟨q, hq, ?_⟩⟩
        rcases List.mem_cons.1 hg with rfl | hg
        · obtain ⟨x', ks', e2, hp', hc⟩ := hs
          obtain ⟨rfl, rfl⟩ := same_nd hp' hp
          rcases hc with ⟨ho, _⟩ | ⟨hq1, rfl⟩
          · omega
          · have hq1 : 1 ≤ q := by rcases hq1 with h | h; (· exact h.2); (· omega)
            refine List.mem_cons_of_mem _ ?_
            rw [if_neg (by omega), idx_of hn hk]
            obtain ⟨z, ls, rfl⟩ := one_kid hp'.wf (.inl h6)
            obtain ⟨rfl, rfl⟩ := same_nd hy hp'.head.2.1
            rw [enF_one]; exact hh
        · by_cases hq0 : q = 0
          · rw [if_pos hq0] at hg; cases hg
          · rw [if_neg hq0] at hg ⊢
            exact List.mem_cons_of_mem _ (en_close hn ks false _ _ _ _ hp.head.2.1 (fun h => by cases h) g hg k s y js e' hk hs hy h hh)
      rw [if_neg h6] at hg ⊢
      by_cases h7 : x.op = 7
      · rw [if_pos h7] at hg ⊢
        obtain ⟨fr, hfr, hg⟩ := List.mem_flatMap.1 hg
        obtain ⟨to, hto, hg⟩ := List.mem_flatMap.1 hg
        refine List.mem_flatMap.2 ⟨fr, hfr, List.mem_flatMap.2 ⟨to, hto, ?_⟩⟩
        rcases List.mem_cons.1 hg with rfl | hg
        · obtain ⟨x', ks', e2, hp', hc⟩ := hs
          obtain ⟨rfl, rfl⟩ := same_nd hp' hp
          rcases hc with ⟨ho, _⟩ | ⟨_, rfl⟩
          · omega
          · refine List.mem_cons_of_mem _ ?_
            rw [idx_of hn hk]
            obtain ⟨z, ls, rfl⟩ := one_kid hp'.wf (.inr h7)
            obtain ⟨rfl, rfl⟩ := same_nd hy hp'.head.2.1
            rw [enF_one]; exact hh
        · exact List.mem_cons_of_mem _ (en_close hn ks false _ _ _ _ hp.head.2.1 (fun h => by cases h) g hg k s y js e' hk hs hy h hh)
      rw [if_neg h7] at hg; cases hg
    intro g hg k s y js e' hk hs hy h hh
    cases md with
    | false =>
      rw [enF_alt] at hg ⊢
      rcases List.mem_append.1 hg with hg | hg
      · exact List.mem_append_left _ (one u g hg k s y js e' hk hs hy h hh)
      · exact List.mem_append_right _ (en_close hn r false _ _ _ _ hp.head.2.2 (fun h => by cases h) g hg k s y js e' hk hs hy h hh)
    | true =>
      obtain ⟨xA, ksA, eA, hpA, h4, hrA⟩ := hA rfl
      rw [enF_cat] at hg ⊢
      rcases List.mem_append.1 hg with hg | hg
      · refine List.mem_append_left _ ?_
        obtain ⟨to, hto, hg⟩ := List.mem_flatMap.1 hg
        refine List.mem_flatMap.2 ⟨to, hto, ?_⟩
        rcases List.mem_cons.1 hg with rfl | hg
        · obtain ⟨x', ks', e2, hp', hc⟩ := hs
          obtain ⟨rfl, rfl⟩ := same_nd hp' hpA
          rcases hc with ⟨_, y', js', r', hr, hkid, hleft, _⟩ | ⟨ho, _⟩
          · have hu := hr.uniq hrA (by simp only [F.num]; dsimp only at hleft; omega)
            obtain ⟨rfl, h2⟩ := hu
            cases h2
            obtain ⟨rfl, rfl⟩ := same_nd hy hp
            refine List.mem_cons_of_mem _ ?_
            rw [idx_of hn hk]; exact hh
          · omega
        · exact List.mem_cons_of_mem _ (one _ g hg k s y js e' hk hs hy h hh)
      · exact List.mem_append_right _ (en_close hn r true _ _ _ _ hp.head.2.2 (fun _ => ⟨xA, ksA, eA, hpA, h4, hrA.next⟩) g hg k s y js e' hk hs hy h hh)
theorem slot_part {K : SrE} {g : Frm} {s : Nat} (h : Slot K g s) : ∃ y js e, Part K.re (.nd y js .nil) s e := by
  obtain ⟨x, ks, e, hp, hc⟩ := h
  rcases hc with ⟨_, y, js, r, hr, _⟩ | ⟨ho, rfl⟩
  · obtain ⟨e2, hp2⟩ := hr.part hp.head.2.1
    exact ⟨y, js, _, hp2.one⟩
  · obtain ⟨y, js, rfl⟩ := one_kid hp.wf (by rcases ho with h | h; (· exact .inl h.1); (· exact .inr h))
    exact ⟨y, js, _, hp.head.2.1⟩
theorem en_all {K : SrE} {S : SS} (hS : FrsOk K S) {x : Nd} {ks : F} {e : Nat} (hp : Part K.re (.nd x ks .nil) 0 e) : ∀ (k : Nat) (f : Frm), S.fs[k]? = some f → f ∈ en1 K.w.length S.fs x ks 0 0 := by
  intro k
  induction k using Nat.strongRecOn with
  | ind k ih =>
    intro f hf
    obtain ⟨hsh, s, hu, hA⟩ := hS.up f (List.mem_of_getElem? hf)
    have hsh' := hsh
    obtain ⟨x2, ks2, e2, hp2, _⟩ := hsh'
    have hown := own_mem (fs := S.fs) hsh hp2
    rcases hu with ⟨hu0, rfl⟩ | ⟨k', g, hu1, hg, hsl⟩
    · rw [hu0] at hown
      exact alt_sub hA hp hp2 f hown
    · obtain ⟨y, js, e3, hy⟩ := slot_part hsl
      have hk' : k' < k := by have := hS.ch k f hf; omega
      rw [hu1] at hown
      have h1 := alt_sub hA hy hp2 f hown
      have h2 := ih k' hk' g hg
      rw [← enF_one (a := 0)] at h2 ⊢
      exact en_close hS.fn (.nd x ks .nil) false 0 0 0 e hp (fun h => by cases h) g h2 k' s y js e3 hg hsl hy f h1
theorem fm_le {α β : Type} {g : β → Nat} {f : α → List β} {B : Nat} : ∀ {l : List α}, (∀ t ∈ l, ((f t).map g).sum ≤ B) → ((l.flatMap f).map g).sum ≤ l.length * B
  | [], _ => by simp
  | t :: l, h => by
    rw [List.flatMap_cons, List.map_append, List.sum_append, List.length_cons, Nat.succ_mul]
    have h1 := h t List.mem_cons_self
    have h2 := fm_le (l := l) fun t ht => h t (List.mem_cons_of_mem _ ht)
    omega
theorem map_le {α β : Type} {g : β → Nat} {f : α → β} {B : Nat} {l : List α} (h : ∀ t ∈ l, g (f t) ≤ B) : ((l.map f).map g).sum ≤ l.length * B := by
  induction l with
  | nil => simp
  | cons t l ih =>
    rw [List.map_cons, List.map_cons, List.sum_cons, List.length_cons, Nat.succ_mul]
    have h1 := h t List.mem_cons_self
    have h2 := ih fun t ht => h t (List.mem_cons_of_mem _ ht)
    omega
/-! the arithmetic -/
theorem ar_cat {n w P : Nat} (h : w = 0 ∨ (n + 2) * (n + 2) * (n + 2) ≤ P) : (n + 1) * ((n + 1) * ((n + 1) * w)) + (n + 1) * ((n + 1) * w + w * P) ≤ w * ((n + 2) * (n + 2) * P) := by
  rcases h with rfl | h
  · simp
  have h1 : (n + 1) * (n + 1) * (n + 2) ≤ (n + 2) * (n + 2) * (n + 2) := Nat.mul_le_mul_right _ (Nat.mul_le_mul (by omega) (by omega))
  have e1 : (n + 1) * ((n + 1) * ((n + 1) * w)) + (n + 1) * ((n + 1) * w + w * P) = w * ((n + 1) * (n + 1) * (n + 2) + (n + 1) * P) := by
    have e0 : (n + 1) * (n + 1) * (n + 2) = (n + 1) * ((n + 1) * (n + 1)) + (n + 1) * (n + 1) := by rw [show n + 2 = (n + 1) + 1 by omega, Nat.mul_add, Nat.mul_one, Nat.mul_comm]
    rw [e0]
    generalize n + 1 = q
    simp only [Nat.mul_add, Nat.mul_comm, Nat.mul_left_comm, Nat.add_assoc]
  rw [e1]
  refine Nat.mul_le_mul_left _ ?_
  have h2 : (n + 2) * P ≤ (n + 2) * (n + 2) * P := by rw [Nat.mul_assoc]; exact Nat.mul_le_mul_left _ (Nat.le_mul_of_pos_left _ (by omega))
  have h3 : (n + 2) * P = (n + 1) * P + P := by rw [show n + 2 = (n + 1) + 1 by omega, Nat.succ_mul]
  omega
theorem ar_rep {n w P m t : Nat} (hm : m + 1 ≤ 2 * t) (h : w = 0 ∨ (n + 2) * (n + 2) * (n + 2) ≤ P) : (n + 1) * ((m + 1) * ((n + 1) * w + w * P)) ≤ t * w * ((n + 2) * (n + 2) * P) := by
  rcases h with rfl | h
  · simp
  have h0 : (n + 1) * ((m + 1) * ((n + 1) * w + w * P)) ≤ (n + 1) * (2 * t * ((n + 1) * w + w * P)) := Nat.mul_le_mul_left _ (Nat.mul_le_mul_right _ hm)
  refine Nat.le_trans h0 ?_
  have e1 : (n + 1) * (2 * t * ((n + 1) * w + w * P)) = t * w * (2 * ((n + 1) * (n + 1)) + 2 * ((n + 1) * P)) := by
    generalize n + 1 = q
    simp only [Nat.mul_add]
    congr 1 <;> ac_rfl
  rw [e1]
  refine Nat.mul_le_mul_left _ ?_
  have h1 : 2 * ((n + 1) * (n + 1)) ≤ (n + 2) * (n + 2) * (n + 2) := by
    have : (n + 1) * (n + 1) ≤ (n + 2) * (n + 2) := Nat.mul_le_mul (by omega) (by omega)
    calc 2 * ((n + 1) * (n + 1)) ≤ 2 * ((n + 2) * (n + 2)) := by omega
      _ ≤ (n + 2) * ((n + 2) * (n + 2)) := Nat.mul_le_mul_right _ (by omega)
      _ = (n + 2) * (n + 2) * (n + 2) := Nat.mul_comm _ _
  have h2 : (2 * (n + 1) + 1) * P ≤ (n + 2) * (n + 2) * P := Nat.mul_le_mul_right _ (by
    have : (n + 2) * (n + 2) = n * n + 4 * n + 4 := by simp only [Nat.mul_add, Nat.add_mul]; omega
    have h0 : 0 ≤ n * n := Nat.zero_le _
    omega)
  rw [Nat.add_mul, Nat.one_mul, Nat.mul_assoc] at h2
  omega
theorem ar_grp {n w P : Nat} : (n + 1) * ((n + 1) * (w * P)) ≤ w * ((n + 2) * (n + 2) * P) := by
  have e1 : (n + 1) * ((n + 1) * (w * P)) = w * ((n + 1) * (n + 1) * P) := by simp only [Nat.mul_comm, Nat.mul_left_comm, Nat.mul_assoc]
  rw [e1]
  exact Nat.mul_le_mul_left _ (Nat.mul_le_mul_right _ (Nat.mul_le_mul (by omega) (by omega)))
theorem sat_times {x : Nd} (h : x.op = 6) : satM x + 1 ≤ 2 * times x := by
  unfold satM times
  rw [if_pos h]
  split <;> omega
def potN (n d : Nat) : Nat := (n + 2) ^ (2 * d + 1)
theorem potN_succ {n d : Nat} : potN n (d + 1) = (n + 2) * (n + 2) * potN n d := by
  unfold potN
  rw [show 2 * (d + 1) + 1 = (2 * d + 1) + 1 + 1 by omega, Nat.pow_succ, Nat.pow_succ, Nat.mul_comm, Nat.mul_comm _ (n + 2), Nat.mul_assoc]
theorem potN_mono {n d e : Nat} (h : d ≤ e) : potN n d ≤ potN n e := Nat.pow_le_pow_right (by omega) (by omega)
theorem potN_big {n : Nat} {f : F} : f.weight = 0 ∨ (n + 2) * (n + 2) * (n + 2) ≤ potN n f.depth := by
  cases f with
  | nil => exact .inl rfl
  | nd x ks r =>
    right
    have h1 : potN n 1 ≤ potN n (F.nd x ks r).depth := potN_mono (by simp only [F.depth]; omega)
    have e : potN n 1 = (n + 2) * (n + 2) * (n + 2) := by unfold potN; simp [Nat.pow_succ]
    omega
def hdS : F → Nat
  | .nil => 0
  | .nd _ ks _ => ks.size + 1
theorem hdS_le {f : F} : hdS f ≤ f.weight := by
  cases f with
  | nil => exact Nat.le_refl _
  | nd x ks r =>
    have h1 := F.size_weight (F.nd x ks .nil)
    simp only [F.size, F.weight, Nat.add_zero] at h1
    simp only [hdS, F.weight]; omega
section
variable {K : SrE} {fs : List Frm}
theorem cst_cat {f : Frm} {x : Nd} {g : F} {e : Nat} (hx : K.re[f.node]? = some x) (ho : x.op = 4) (hg : Part K.re g f.kid e) (hn : g.num = f.left) : K.cst f ≤ (K.w.length + 1) * hdS g := by
  rw [SrE.cst, hx]
  simp only [ho, if_true]
  cases g with
  | nil => rw [if_pos (by simp only [F.num] at hn; omega)]; exact Nat.zero_le _
  | nd y js r =>
    rw [if_neg (by simp only [F.num] at hn; omega), fo1 hg]
    simp only [F.size, hdS, Nat.add_zero]
    exact Nat.mul_le_mul_left _ (by omega)
theorem cst_rep {f : Frm} {x : Nd} {ks : F} {e : Nat} (hp : Part K.re (.nd x ks .nil) f.node e) (ho : x.op = 6) : K.cst f ≤ (K.w.length + 1) * ks.weight := by
  rw [SrE.cst, hp.head.1]
  simp only [ho]
  rw [if_neg (by decide), if_pos trivial]
  obtain ⟨y, js, rfl⟩ := one_kid hp.wf (.inl ho)
  rw [fo1 hp.head.2.1]
  exact Nat.mul_le_mul_left _ (F.size_weight _)
theorem cst_grp {f : Frm} {x : Nd} (hx : K.re[f.node]? = some x) (ho : x.op = 7) : K.cst f = 0 := by
  rw [SrE.cst, hx]
  simp only [ho]
  rw [if_neg (by decide), if_neg (by decide)]
theorem en_sum : ∀ (f : F) (p u a e : Nat), Part K.re f p e →
    ((enF K.w.length fs f false p u a).map K.cst).sum ≤ f.weight * potN K.w.length f.depth ∧
    ((∃ xA, K.re[a]? = some xA ∧ xA.op = 4) → ((enF K.w.length fs f true p u a).map K.cst).sum ≤ (K.w.length + 1) * ((K.w.length + 1) * (f.weight - hdS f) + f.weight * potN K.w.length f.depth))
  | .nil, p, u, a, e, _ => by
    constructor
    · rw [enF]; simp
    · intro _; rw [enF]; simp
  | .nd x ks r, p, u, a, e, hp => by
    have hks := hp.head.2.1
    have hr := hp.head.2.2
    have hb := potN_big (n := K.w.length) (f := ks)
    have one : ∀ u, ((en1 K.w.length fs x ks p u).map K.cst).sum ≤ times x * ks.weight * potN K.w.length (ks.depth + 1) := by
      intro u
      rw [potN_succ]
      unfold en1
      by_cases h5 : x.op = 5
      · rw [if_pos h5]
        refine Nat.le_trans (en_sum ks _ _ _ _ hks).1 ?_
        have ht : times x = 1 := by unfold times; rw [if_neg (by omega)]
        rw [ht, Nat.one_mul]
        refine Nat.mul_le_mul_left _ ?_
        exact Nat.le_mul_of_pos_left _ (Nat.mul_pos (by omega) (by omega))
      rw [if_neg h5]
      by_cases h4 : x.op = 4
      · rw [if_pos h4, List.map_append, List.sum_append]
        have ht : times x = 1 := by unfold times; rw [if_neg (by omega)]
        rw [ht, Nat.one_mul]
        refine Nat.le_trans (Nat.add_le_add ?_ (Nat.le_trans ((en_sum ks (p + 1) u p _ hks).2 ⟨x, hp.head.1, h4⟩) (Nat.mul_le_mul_left _ (Nat.add_le_add_right (Nat.mul_le_mul_left _ (Nat.sub_le _ _)) _)))) (ar_cat hb)
        refine Nat.le_trans (fm_le (B := (K.w.length + 1) * ((K.w.length + 1) * ks.weight)) fun fr _ => ?_) (by rw [List.length_range]; exact Nat.le_refl _)
        refine Nat.le_trans (map_le (B := (K.w.length + 1) * ks.weight) fun to _ => ?_) (by rw [List.length_range]; exact Nat.le_refl _)
        exact Nat.le_trans (cst_cat (f := ⟨u, p, p + 1, ks.num, fr, to⟩) hp.head.1 h4 hks rfl) (Nat.mul_le_mul_left _ hdS_le)
      rw [if_neg h4]
      by_cases h6 : x.op = 6
      · rw [if_pos h6]
        refine Nat.le_trans (fm_le (B := (satM x + 1) * ((K.w.length + 1) * ks.weight + ks.weight * potN K.w.length ks.depth)) fun to _ => ?_) (by rw [List.length_range]; exact ar_rep (sat_times h6) hb)
        refine Nat.le_trans (fm_le (B := (K.w.length + 1) * ks.weight + ks.weight * potN K.w.length ks.depth) fun q _ => ?_) (by rw [List.length_range]; exact Nat.le_refl _)
        rw [List.map_cons, List.sum_cons]
        refine Nat.add_le_add (cst_rep (f := ⟨u, p, q, 0, 0, to⟩) hp.one h6) ?_
        split
        · simp
        · exact (en_sum ks _ _ _ _ hks).1
      rw [if_neg h6]
      by_cases h7 : x.op = 7
      · rw [if_pos h7]
        have ht : times x = 1 := by unfold times; rw [if_neg (by omega)]
        rw [ht, Nat.one_mul]
        refine Nat.le_trans (fm_le (B := (K.w.length + 1) * (ks.weight * potN K.w.length ks.depth)) fun fr _ => ?_) (by rw [List.length_range]; exact ar_grp)
        refine Nat.le_trans (fm_le (B := ks.weight * potN K.w.length ks.depth) fun to _ => ?_) (by rw [List.length_range]; exact Nat.le_refl _)
        rw [List.map_cons, List.sum_cons, cst_grp (f := ⟨u, p, 0, 0, fr, to⟩) hp.head.1 h7, Nat.zero_add]
        exact (en_sum ks _ _ _ _ hks).1
      rw [if_neg h7]; simp
    have hd1 : potN K.w.length (ks.depth + 1) ≤ potN K.w.length (F.nd x ks r).depth := potN_mono (by simp only [F.depth]; omega)
    have hd2 : potN K.w.length r.depth ≤ potN K.w.length (F.nd x ks r).depth := potN_mono (by simp only [F.depth]; omega)
    have one' : ∀ u, ((en1 K.w.length fs x ks p u).map K.cst).sum ≤ times x * ks.weight * potN K.w.length (F.nd x ks r).depth := fun u => Nat.le_trans (one u) (Nat.mul_le_mul_left _ hd1)
    have hw : (F.nd x ks r).weight = 1 + times x * ks.weight + r.weight := rfl
    constructor
    · rw [enF_alt, List.map_append, List.sum_append, hw, Nat.add_mul, Nat.add_mul]
      have h1 := one' u
      have h2 := Nat.le_trans (en_sum r (p + 1 + ks.size) u a _ hr).1 (Nat.mul_le_mul_left _ hd2)
      omega
    · rintro ⟨xA, hxA, h4⟩
      rw [enF_cat, List.map_append, List.sum_append]
      have h2 := Nat.le_trans ((en_sum r (p + 1 + ks.size) u a _ hr).2 ⟨xA, hxA, h4⟩) (Nat.mul_le_mul_left _ (Nat.add_le_add_left (Nat.mul_le_mul_left _ hd2) _))
      have h1 : (((List.range (K.w.length + 1)).flatMap fun to => (⟨u, a, p + 1 + ks.size, r.num, 0, to⟩ : Frm) :: en1 K.w.length fs x ks p (idxF fs ⟨u, a, p + 1 + ks.size, r.num, 0, to⟩)).map K.cst).sum ≤ (K.w.length + 1) * ((K.w.length + 1) * hdS r + times x * ks.weight * potN K.w.length (F.nd x ks r).depth) := by
        refine Nat.le_trans (fm_le (B := (K.w.length + 1) * hdS r + times x * ks.weight * potN K.w.length (F.nd x ks r).depth) fun to _ => ?_) (by rw [List.length_range]; exact Nat.le_refl _)
        rw [List.map_cons, List.sum_cons]
        exact Nat.add_le_add (cst_cat (f := ⟨u, a, p + 1 + ks.size, r.num, 0, to⟩) hxA h4 hr rfl) (one' _)
      refine Nat.le_trans (Nat.add_le_add h1 h2) ?_
      rw [← Nat.mul_add]
      refine Nat.mul_le_mul_left _ ?_
      have ht : 1 ≤ times x := by unfold times; split <;> (try split) <;> omega
      have hsz : ks.size ≤ times x * ks.weight := Nat.le_trans (F.size_weight ks) (Nat.le_mul_of_pos_left _ ht)
      have hhr := hdS_le (f := r)
      have h3 : (K.w.length + 1) * hdS r + (K.w.length + 1) * (r.weight - hdS r) ≤ (K.w.length + 1) * ((F.nd x ks r).weight - hdS (F.nd x ks r)) := by
        rw [← Nat.mul_add]
        refine Nat.mul_le_mul_left _ ?_
        rw [hw, show hdS (F.nd x ks r) = ks.size + 1 from rfl]; omega
      have h4 : times x * ks.weight * potN K.w.length (F.nd x ks r).depth + r.weight * potN K.w.length (F.nd x ks r).depth ≤ (F.nd x ks r).weight * potN K.w.length (F.nd x ks r).depth := by
        rw [← Nat.add_mul]
        exact Nat.mul_le_mul_right _ (by rw [hw]; omega)
      omega
end
end Go.HL.Kl.Mc
namespace Go.HL.Kl.Mc
open Go Go.HL Go.HL.Kl AskE
theorem nodupS {α : Type} [DecidableEq α] {g : α → Nat} : ∀ {l L : List α}, l.Nodup → (∀ a ∈ l, a ∈ L) → (l.map g).sum ≤ (L.map g).sum
  | [], _, _, _ => Nat.zero_le _
  | a :: l, L, hn, hs => by
    have ha := hs a List.mem_cons_self
    have hp := List.perm_cons_erase ha
    have e : (L.map g).sum = ((a :: L.erase a).map g).sum := (hp.map g).sum_nat
    rw [e, List.map_cons, List.map_cons, List.sum_cons, List.sum_cons]
    have hn' := List.nodup_cons.1 hn
    refine Nat.add_le_add_left (nodupS hn'.2 fun b hb => ?_) _
    have hb2 := hs b (List.mem_cons_of_mem _ hb)
    have hne : b ≠ a := fun e => hn'.1 (e ▸ hb)
    exact (List.mem_erase_of_ne hne).2 hb2
theorem nodup_map_on {α β : Type} {f : α → β} : ∀ {l : List α}, l.Nodup → (∀ a ∈ l, ∀ b ∈ l, f a = f b → a = b) → (l.map f).Nodup
  | [], _, _ => List.nodup_nil
  | a :: l, hn, hi => by
    have hn' := List.nodup_cons.1 hn
    rw [List.map_cons]
    refine List.nodup_cons.2 ⟨fun hm => ?_, nodup_map_on hn'.2 fun x hx y hy => hi x (List.mem_cons_of_mem _ hx) y (List.mem_cons_of_mem _ hy)⟩
    obtain ⟨b, hb, he⟩ := List.mem_map.1 hm
    have := hi b (List.mem_cons_of_mem _ hb) a List.mem_cons_self he
    exact hn'.1 (this ▸ hb)
def spL (n : Nat) : List Sp := noS :: (List.range (n + 1)).flatMap fun fr => (List.range (n + 1)).map fun to => ⟨(fr : Nat), (to : Nat)⟩
def vecs (n : Nat) : Nat → List (List Sp)
  | 0 => [[]]
  | g + 1 => (spL n).flatMap fun s => (vecs n g).map fun v => s :: v
theorem flat_len_le {α β : Type} {f : α → List β} {B : Nat} : ∀ {l : List α}, (∀ a ∈ l, (f a).length ≤ B) → (l.flatMap f).length ≤ l.length * B
  | [], _ => by simp
  | a :: l, h => by
    rw [List.flatMap_cons, List.length_append, List.length_cons, Nat.succ_mul]
    have h1 := h a List.mem_cons_self
    have h2 := flat_len_le (l := l) fun b hb => h b (List.mem_cons_of_mem _ hb)
    omega
theorem spL_len {n : Nat} : (spL n).length ≤ (n + 2) * (n + 2) := by
  unfold spL
  rw [List.length_cons]
  have h := flat_len_le (l := List.range (n + 1)) (f := fun fr => (List.range (n + 1)).map fun to => (⟨(fr : Nat), (to : Nat)⟩ : Sp)) (B := n + 1) (fun a _ => by simp)
  rw [List.length_range] at h
  have e1 : (n + 1) * (n + 1) = n * n + 2 * n + 1 := by simp only [Nat.mul_add, Nat.add_mul]; omega
  have e2 : (n + 2) * (n + 2) = n * n + 4 * n + 4 := by simp only [Nat.mul_add, Nat.add_mul]; omega
  omega
theorem spL_mem {K : SrE} {s : Sp} (h : SpOk K s) : s ∈ spL K.w.length := by
  unfold spL
  rcases h with rfl | ⟨h1, h2, h3⟩
  · exact List.mem_cons_self
  · obtain ⟨fr, to⟩ := s
    dsimp only at h1 h2 h3
    refine List.mem_cons_of_mem _ (List.mem_flatMap.2 ⟨fr.toNat, List.mem_range.2 (by omega), List.mem_map.2 ⟨to.toNat, List.mem_range.2 (by omega), ?_⟩⟩)
    rw [Sp.mk.injEq]; omega
theorem vecs_len {n : Nat} : ∀ g, (vecs n g).length ≤ ((n + 2) * (n + 2)) ^ g
  | 0 => by simp [vecs]
  | g + 1 => by
    rw [vecs, Nat.pow_succ, Nat.mul_comm]
    refine Nat.le_trans (flat_len_le (B := ((n + 2) * (n + 2)) ^ g) fun s _ => ?_) (Nat.mul_le_mul_right _ spL_len)
    rw [List.length_map]; exact vecs_len g
theorem vecs_mem {n : Nat} : ∀ {g : Nat} {v : List Sp}, v.length = g → (∀ s ∈ v, s ∈ spL n) → v ∈ vecs n g
  | 0, v, h, _ => by rw [List.eq_nil_of_length_eq_zero h]; exact List.mem_singleton.2 rfl
  | g + 1, [], h, _ => by cases h
  | g + 1, s :: v, h, hm => List.mem_flatMap.2 ⟨s, hm s List.mem_cons_self, List.mem_map.2 ⟨v, vecs_mem (by simpa using h) fun t ht => hm t (List.mem_cons_of_mem _ ht), rfl⟩⟩
section
variable {K : SrE} {S : SS}
open Classical in
noncomputable def ptV (K : SrE) (S : SS) (p : Pt) : List Sp := if h : PtOk K S p then K.proj h.2.2.2.choose else []
theorem ptV_eq {p : Pt} (h : PtOk K S p) : Dec S.ts 0 (chunks (ptV K S p)) p.tk ∧ ptV K S p ∈ vecs K.w.length K.R.length := by
  have hs := h.2.2.2.choose_spec
  have e : ptV K S p = K.proj h.2.2.2.choose := by unfold ptV; rw [dif_pos h]
  rw [e]
  refine ⟨hs.2, vecs_mem (K.proj_len _) fun s hm => ?_⟩
  unfold SrE.proj at hm
  obtain ⟨m, _, rfl⟩ := List.mem_map.1 hm
  exact spL_mem (getD_ok hs.1)
noncomputable def ptT (K : SrE) (S : SS) (p : Pt) : Nat × Nat × List Sp := (p.u - 1, p.at_, ptV K S p)
theorem ptT_inj (hS : FrsOk K S) {p q : Pt} (hp : PtOk K S p) (hq : PtOk K S q) (h : ptT K S p = ptT K S q) : p = q := by
  unfold ptT at h
  rw [Prod.mk.injEq, Prod.mk.injEq] at h
  obtain ⟨h1, h2, h3⟩ := h
  have d1 := (ptV_eq hp).1
  have d2 := (ptV_eq hq).1
  rw [← h3] at d2
  have h4 := Dec.fn hS.nd d1 d2
  obtain ⟨a, b, c⟩ := p
  obtain ⟨a', b', c'⟩ := q
  have h5 := hp.1
  have h6 := hq.1
  dsimp only at *
  have : a = a' := by omega
  subst this h2 h4
  rfl
theorem cstP_elim {K : SrE} {fs : List Frm} {p : Pt} : K.cstP fs p = (fs[p.u - 1]?).elim 0 K.cst := by
  unfold SrE.cstP
  cases fs[p.u - 1]? <;> rfl
theorem range_map {α : Type} {c : α → Nat} : ∀ (l : List α), ((List.range l.length).map fun k => (l[k]?).elim 0 c).sum = (l.map c).sum
  | [] => rfl
  | a :: l => by
    rw [List.length_cons, List.range_succ_eq_map, List.map_cons, List.map_map, List.sum_cons, List.map_cons, List.sum_cons]
    have := range_map (c := c) l
    rw [← this]; rfl
theorem const_sum {α : Type} {c : Nat} : ∀ (l : List α), (l.map fun _ => c).sum = l.length * c
  | [] => by simp
  | a :: l => by rw [List.map_cons, List.sum_cons, const_sum l, List.length_cons, Nat.succ_mul]; omega
theorem pts_le (hS : FrsOk K S) {x : Nd} {ks : F} {e : Nat} (hp : Part K.re (.nd x ks .nil) 0 e) {L : List Pt} (hn : L.Nodup) (hL : ∀ p ∈ L, PtOk K S p) :
    (L.map (K.cstP S.fs)).sum ≤ (F.nd x ks .nil).weight * potN K.w.length (F.nd x ks .nil).depth * ((K.w.length + 1) * ((K.w.length + 2) * (K.w.length + 2)) ^ K.R.length) := by
  let g : Nat × Nat × List Sp → Nat := fun t => (S.fs[t.1]?).elim 0 K.cst
  have e1 : L.map (K.cstP S.fs) = (L.map (ptT K S)).map g := by rw [List.map_map]; exact List.map_congr_left fun p _ => cstP_elim
  let X : List (Nat × Nat × List Sp) := (List.range S.fs.length).flatMap fun k => (List.range (K.w.length + 1)).flatMap fun a => (vecs K.w.length K.R.length).map fun v => (k, a, v)
  have hX : ∀ t ∈ L.map (ptT K S), t ∈ X := fun t ht => by
    obtain ⟨p, hpL, rfl⟩ := List.mem_map.1 ht
    obtain ⟨h1, h2, h3, _⟩ := hL p hpL
    exact List.mem_flatMap.2 ⟨p.u - 1, List.mem_range.2 (by omega), List.mem_flatMap.2 ⟨p.at_, List.mem_range.2 (by omega), List.mem_map.2 ⟨_, (ptV_eq (hL p hpL)).2, rfl⟩⟩⟩
  have hN : (L.map (ptT K S)).Nodup := nodup_map_on hn fun a ha b hb he => ptT_inj hS (hL a ha) (hL b hb) he
  rw [e1]
  refine Nat.le_trans (nodupS hN hX) ?_
  have h2 : ∀ l : List Nat, ((l.flatMap fun k => (List.range (K.w.length + 1)).flatMap fun a => (vecs K.w.length K.R.length).map fun v => (k, a, v)).map g).sum ≤ (l.map fun k => (S.fs[k]?).elim 0 K.cst).sum * ((K.w.length + 1) * ((K.w.length + 2) * (K.w.length + 2)) ^ K.R.length) := by
    intro l
    induction l with
    | nil => simp
    | cons k l ih =>
      rw [List.flatMap_cons, List.map_append, List.sum_append, List.map_cons, List.sum_cons, Nat.add_mul]
      refine Nat.add_le_add ?_ ih
      refine Nat.le_trans (fm_le (B := ((K.w.length + 2) * (K.w.length + 2)) ^ K.R.length * ((S.fs[k]?).elim 0 K.cst)) fun a _ => ?_) ?_
      · refine Nat.le_trans (map_le (B := (S.fs[k]?).elim 0 K.cst) fun v _ => Nat.le_refl _) ?_
        exact Nat.mul_le_mul_right _ (vecs_len _)
      · rw [List.length_range, Nat.mul_comm ((S.fs[k]?).elim 0 K.cst), ← Nat.mul_assoc]; exact Nat.le_refl _
  refine Nat.le_trans (h2 _) (Nat.mul_le_mul_right _ ?_); refine Nat.le_trans (Nat.le_of_eq (range_map (c := K.cst) S.fs)) ?_; refine Nat.le_trans (nodupS (L := en1 K.w.length S.fs x ks 0 0) hS.fn fun f hf => ?_) ?_
  · obtain ⟨k, hk⟩ := List.mem_iff_getElem?.1 hf
    exact en_all hS hp k f hk
  · rw [← enF_one (a := 0)]
    exact (en_sum (.nd x ks .nil) 0 0 0 e hp).1
end
end Go.HL.Kl.Mc
namespace Go.HL.Kl.Mc
open Go Go.HL Go.HL.Kl AskE
structure QB (K : SrE) (S : SS) (f used : Nat) : Prop where
  ok : FrsOk K S
  nd : S.F.Nodup
  pts : ∀ p ∈ S.F, PtOk K S p
  le : f ≤ S.fuel + used + (S.F.map (K.cstP S.fs)).sum
section
variable {K : SrE} {S S' : SS} {f used i j e : Nat} {x : Nd} {ks : F}
theorem QB.start {N : Nat} (hs : S = ⟨[], [], [], List.replicate N noS, f, 0⟩) : QB K S f 0 := by
  subst hs
  exact ⟨⟨fun _ h => (by cases h), fun k g h => (by simp at h), fun s h => .inl (List.eq_of_mem_replicate h), List.nodup_nil, fun _ h => (by cases h), List.nodup_nil⟩, List.nodup_nil, fun _ h => (by cases h), Nat.le_add_right _ _⟩
theorem QB.run {b : Bool} (h : QB K S f used) (hp : Part K.re (.nd x ks .nil) 0 e) (hij : i ≤ j) (hj : j ≤ K.w.length) (hE : Ev K S (.take 0 i j 0) b S') :
    ∃ L : List Pt, FrsOk K S' ∧ L.Nodup ∧ (∀ p ∈ L, PtOk K S' p) ∧ f ≤ S'.fuel + (used + (ks.size + 1)) + (L.map (K.cstP S'.fs)).sum ∧ (b = false → L = S'.F) := by
  obtain ⟨a1, ⟨z, hz⟩, ⟨v, hv⟩, T, N, a3, a4, a5, a6, a7⟩ := hE.gd h.ok ⟨⟨x, ks, e, hp⟩, hij, hj, Nat.zero_le _, 0, .inl ⟨rfl, rfl⟩, .refl⟩
  have e1 : S.F.map (K.cstP S'.fs) = S.F.map (K.cstP S.fs) := by rw [hz]; exact map_cst_ext fun p hp => ⟨(h.pts p hp).1, (h.pts p hp).2.1⟩
  refine ⟨T ++ (N ++ S.F), a1, a6 h.nd, fun p hp => ?_, ?_, fun hb => by rw [a3 hb, a4]; rfl⟩
  · rw [← List.append_assoc] at hp
    rcases List.mem_append.1 hp with hp | hp
    · exact (a5 p hp).1
    · exact (h.pts p hp).ext ⟨z, hz⟩ ⟨v, hv⟩
  · have h1 := h.le
    have h2 : fcQ K (.take 0 i j 0) = ks.size + 1 := by
      show (foAt K.re 0 1).size = _
      rw [fo1 hp]; simp [F.size, Nat.add_comm]
    rw [h2] at a7
    rw [← List.append_assoc, List.map_append, List.sum_append, e1]
    omega
theorem QB.step (h : QB K S f used) (hp : Part K.re (.nd x ks .nil) 0 e) (hij : i ≤ j) (hj : j ≤ K.w.length) (hE : Ev K S (.take 0 i j 0) false S') : QB K S' f (used + (ks.size + 1)) := by
  obtain ⟨L, h1, h2, h3, h4, h5⟩ := h.run hp hij hj hE
  obtain rfl := h5 rfl
  exact ⟨h1, h2, h3, h4⟩
theorem pow_sq {N g : Nat} : (N * N) ^ g = N ^ (2 * g) := by rw [Nat.pow_mul, Nat.pow_two]
theorem ar_all {n W d g u : Nat} (hu : u ≤ (n + 2) * (n + 2) * W) (hd : 1 ≤ d) : u + W * potN n d * ((n + 1) * ((n + 2) * (n + 2)) ^ g) ≤ W * (n + 2) ^ (2 * d + 2 * g + 4) := by
  have eA : potN n d * ((n + 2) * (n + 2)) ^ g = (n + 2) ^ (2 * d + 1 + 2 * g) := by rw [potN, pow_sq, ← Nat.pow_add]
  have h1 : (n + 2) * (n + 2) ≤ (n + 2) ^ (2 * d + 1 + 2 * g) := by
    rw [← Nat.pow_two]; exact Nat.pow_le_pow_right (by omega) (by omega)
  have h2 : W * potN n d * ((n + 1) * ((n + 2) * (n + 2)) ^ g) = (n + 1) * (W * (n + 2) ^ (2 * d + 1 + 2 * g)) := by rw [← eA]; ac_rfl
  have h3 : u ≤ W * (n + 2) ^ (2 * d + 1 + 2 * g) := Nat.le_trans hu (by rw [Nat.mul_comm]; exact Nat.mul_le_mul_left _ h1)
  have h4 : (n + 2) * (W * (n + 2) ^ (2 * d + 1 + 2 * g)) = (n + 1) * (W * (n + 2) ^ (2 * d + 1 + 2 * g)) + W * (n + 2) ^ (2 * d + 1 + 2 * g) := Nat.succ_mul _ _
  have h5 : (n + 2) * (W * (n + 2) ^ (2 * d + 1 + 2 * g)) ≤ W * (n + 2) ^ (2 * d + 2 * g + 4) := by
    have : (n + 2) * (W * (n + 2) ^ (2 * d + 1 + 2 * g)) = W * (n + 2) ^ (2 * d + 1 + 2 * g + 1) := by rw [Nat.pow_succ]; ac_rfl
    rw [this]
    exact Nat.mul_le_mul_left _ (Nat.pow_le_pow_right (by omega) (by omega))
  omega
theorem QB.bound {b : Bool} (h : QB K S f used) (hp : Part K.re (.nd x ks .nil) 0 e) (hij : i ≤ j) (hj : j ≤ K.w.length) (hE : Ev K S (.take 0 i j 0) b S') (hu : used + (ks.size + 1) ≤ (K.w.length + 2) * (K.w.length + 2) * (F.nd x ks .nil).weight) :
    f ≤ S'.fuel + (F.nd x ks .nil).weight * (K.w.length + 2) ^ (2 * (ks.depth + 1) + 2 * K.R.length + 4) := by
  obtain ⟨L, h1, h2, h3, h4, _⟩ := h.run hp hij hj hE
  have h5 := pts_le h1 hp h2 h3
  have hd : (F.nd x ks .nil).depth = ks.depth + 1 := by simp only [F.depth]; omega
  rw [hd] at h5
  have h6 := ar_all (g := K.R.length) (d := ks.depth + 1) hu (by omega)
  omega
theorem enL_ge {X b : Nat} (hb : 0 < b) (hX : X ≤ 4611686018427387904) : ∀ (k out : Nat), X ≤ out * b ^ k → X ≤ enL b k out
  | 0, out, h => by simpa [enL] using h
  | k + 1, out, h => by
    by_cases hbig : 4611686018427387904 / b < out
    · rw [enL_yes hbig]; exact hX
    · rw [enL_no hbig]
      exact enL_ge hb hX k (out * b) (by rw [Nat.mul_assoc, ← Nat.pow_succ']; exact h)
end
end Go.HL.Kl.Mc
namespace Go.HL.Kl.Mc
open Go Go.HL Go.HL.Kl AskE
inductive EvD (K : SrE) : SS → Bool → SQ → Bool → SS → Bool → Prop
  | takeDry {S : SS} {d : Bool} {at_ i j up : Nat} (h : S.fuel = 0 ∨ d = true) : EvD K S d (.take at_ i j up) false S true
  | takeNo {S : SS} {at_ i j up : Nat} {x : Nd} (hx : K.re[at_]? = some x) (hf : 0 < S.fuel) (ho : x.op = 1 ∨ x.op = 2 ∨ x.op = 3 ∨ x.op = 8) (hg : ¬ K.good x S.cs i j) : EvD K S false (.take at_ i j up) false S.tick false
  | takeYes {d2 : Bool} {S S' : SS} {at_ i j up : Nat} {x : Nd} {b : Bool} (hx : K.re[at_]? = some x) (hf : 0 < S.fuel) (ho : x.op = 1 ∨ x.op = 2 ∨ x.op = 3 ∨ x.op = 8) (hg : K.good x S.cs i j) (h : EvD K S.tick false (.next up j) b S' d2) : EvD K S false (.take at_ i j up) b S' d2
  | takeAlt {d2 : Bool} {S S' : SS} {at_ i j up : Nat} {x : Nd} {b : Bool} (hx : K.re[at_]? = some x) (hf : 0 < S.fuel) (ho : x.op = 5) (h : EvD K S.tick false (.alt (at_ + 1) x.kids.toNat i j up) b S' d2) : EvD K S false (.take at_ i j up) b S' d2
  | takeCat {d2 : Bool} {S S2 S' : SS} {at_ i j up u : Nat} {x : Nd} {b : Bool} (hx : K.re[at_]? = some x) (hf : 0 < S.fuel) (ho : x.op = 4) (hp : S.tick.push ⟨up, at_, at_ + 1, x.kids.toNat, i, j⟩ = (u, S2)) (h : EvD K S2 false (.next u i) b S' d2) : EvD K S false (.take at_ i j up) b S' d2
  | takeRep {d2 : Bool} {S S2 S' : SS} {at_ i j up u : Nat} {x : Nd} {b : Bool} (hx : K.re[at_]? = some x) (hf : 0 < S.fuel) (ho : x.op = 6) (hp : S.tick.push ⟨up, at_, 0, 0, 0, j⟩ = (u, S2)) (h : EvD K S2 false (.next u i) b S' d2) : EvD K S false (.take at_ i j up) b S' d2
  | takeGrpY {d2 : Bool} {S S2 S' : SS} {at_ i j up u : Nat} {x : Nd} (hx : K.re[at_]? = some x) (hf : 0 < S.fuel) (ho : x.op = 7) (hp : ({ S.tick with cs := fgt (K.inn (at_ + 1) (K.bh at_)) S.cs } : SS).push ⟨up, at_, 0, 0, i, j⟩ = (u, S2)) (h : EvD K S2 false (.take (at_ + 1) i j u) true S' d2) : EvD K S false (.take at_ i j up) true S' d2
  | takeGrpN {d2 : Bool} {S S2 S' : SS} {at_ i j up u : Nat} {x : Nd} (hx : K.re[at_]? = some x) (hf : 0 < S.fuel) (ho : x.op = 7) (hp : ({ S.tick with cs := fgt (K.inn (at_ + 1) (K.bh at_)) S.cs } : SS).push ⟨up, at_, 0, 0, i, j⟩ = (u, S2)) (h : EvD K S2 false (.take (at_ + 1) i j u) false S' d2) : EvD K S false (.take at_ i j up) false { S' with cs := rst (K.inn (at_ + 1) (K.bh at_)) (emW (K.inn (at_ + 1) (K.bh at_)) S.cs) S'.cs } d2
  | altNil {d : Bool} {S : SS} {kid i j up : Nat} : EvD K S d (.alt kid 0 i j up) false S d
  | altYes {d d2 : Bool} {S S' : SS} {kid l i j up : Nat} (h : EvD K S d (.take kid i j up) true S' d2) : EvD K S d (.alt kid (l + 1) i j up) true S' d2
  | altNo {d d1 d2 : Bool} {S S1 S' : SS} {kid l i j up : Nat} {b : Bool} (h : EvD K S d (.take kid i j up) false S1 d1) (h' : EvD K S1 d1 (.alt (K.bh kid) l i j up) b S' d2) : EvD K S d (.alt kid (l + 1) i j up) b S' d2
  | nextZero {d : Bool} {S : SS} {at_ : Nat} : EvD K S d (.next 0 at_) true S d
  | nextMemo {d : Bool} {S : SS} {k at_ : Nat} (h : (⟨k + 1, at_, (K.code S).1⟩ : Pt) ∈ S.F) : EvD K S d (.next (k + 1) at_) false (K.code S).2 d
  | nextGo {d d2 : Bool} {S S2 : SS} {k at_ : Nat} {f : Frm} {b : Bool} (hn : (⟨k + 1, at_, (K.code S).1⟩ : Pt) ∉ S.F) (hf : S.fs[k]? = some f) (h : EvD K { (K.code S).2 with wk := S.wk + 1 } d (.body f at_) b S2 d2) : EvD K S d (.next (k + 1) at_) b (if d2 = true then S2 else (S2.fail b ⟨k + 1, at_, (K.code S).1⟩)) d2
  | bodyCat {d d2 : Bool} {S S' : SS} {f : Frm} {at_ : Nat} {x : Nd} {b : Bool} (hx : K.re[f.node]? = some x) (ho : x.op = 4) (h : EvD K S d (.row f at_) b S' d2) : EvD K S d (.body f at_) b S' d2
  | bodyRep {d d2 : Bool} {S S' : SS} {f : Frm} {at_ : Nat} {x : Nd} {b : Bool} (hx : K.re[f.node]? = some x) (ho : x.op = 6) (h : EvD K S d (.rnd f at_) b S' d2) : EvD K S d (.body f at_) b S' d2
  | bodyGrpY {d d2 : Bool} {S S' : SS} {f : Frm} {at_ : Nat} {x : Nd} (hx : K.re[f.node]? = some x) (h4 : ¬ x.op = 4) (h6 : ¬ x.op = 6) (h : EvD K { S with cs := S.cs.set x.n.toNat ⟨f.fr, f.to⟩ } d (.next f.up at_) true S' d2) : EvD K S d (.body f at_) true S' d2
  | bodyGrpN {d d2 : Bool} {S S' : SS} {f : Frm} {at_ : Nat} {x : Nd} (hx : K.re[f.node]? = some x) (h4 : ¬ x.op = 4) (h6 : ¬ x.op = 6) (h : EvD K { S with cs := S.cs.set x.n.toNat ⟨f.fr, f.to⟩ } d (.next f.up at_) false S' d2) : EvD K S d (.body f at_) false { S' with cs := S'.cs.set x.n.toNat (S.cs.getD x.n.toNat noS) } d2
  | rowZN {d : Bool} {S : SS} {f : Frm} {at_ : Nat} (hl : f.left = 0) (he : at_ ≠ f.to) : EvD K S d (.row f at_) false S d
  | rowZ {d d2 : Bool} {S S' : SS} {f : Frm} {at_ : Nat} {b : Bool} (hl : f.left = 0) (he : at_ = f.to) (h : EvD K S d (.next f.up at_) b S' d2) : EvD K S d (.row f at_) b S' d2
  | rowS {d d2 : Bool} {S S1 S' : SS} {f : Frm} {at_ u l : Nat} {b : Bool} (hl : f.left = l + 1) (hp : S.push { f with kid := K.bh f.kid, left := l, fr := 0 } = (u, S1)) (h : EvD K S1 d (.rowL f u at_ (ends at_ f.to)) b S' d2) : EvD K S d (.row f at_) b S' d2
  | rowLNil {d : Bool} {S : SS} {f : Frm} {u at_ : Nat} : EvD K S d (.rowL f u at_ []) false S d
  | rowLYes {d d2 : Bool} {S S' : SS} {f : Frm} {u at_ e : Nat} {es : List Nat} (h : EvD K S d (.take f.kid at_ e u) true S' d2) : EvD K S d (.rowL f u at_ (e :: es)) true S' d2
  | rowLLast {d d2 : Bool} {S S' : SS} {f : Frm} {u at_ e : Nat} {es : List Nat} (hl : f.left = 1) (h : EvD K S d (.take f.kid at_ e u) false S' d2) : EvD K S d (.rowL f u at_ (e :: es)) false S' d2
  | rowLNo {d d1 d2 : Bool} {S S1 S' : SS} {f : Frm} {u at_ e : Nat} {es : List Nat} {b : Bool} (hl : f.left ≠ 1) (h : EvD K S d (.take f.kid at_ e u) false S1 d1) (h' : EvD K S1 d1 (.rowL f u at_ es) b S' d2) : EvD K S d (.rowL f u at_ (e :: es)) b S' d2
  | rndYes {d d2 : Bool} {S S1 S' : SS} {f : Frm} {at_ u : Nat} {x : Nd} (hx : K.re[f.node]? = some x) (hm : x.mx < 0 ∨ (f.kid : Int) < x.mx) (hp : S.push { f with kid := satK x f.kid } = (u, S1)) (h : EvD K S1 d (.rndL f u at_ (ends at_ f.to)) true S' d2) : EvD K S d (.rnd f at_) true S' d2
  | rndEnd {d d1 d2 : Bool} {S S1 S2 S' : SS} {f : Frm} {at_ u : Nat} {x : Nd} {b : Bool} (hx : K.re[f.node]? = some x) (hm : x.mx < 0 ∨ (f.kid : Int) < x.mx) (hp : S.push { f with kid := satK x f.kid } = (u, S1)) (h : EvD K S1 d (.rndL f u at_ (ends at_ f.to)) false S2 d1) (he : at_ = f.to ∧ x.mn ≤ (f.kid : Int)) (h' : EvD K S2 d1 (.next f.up at_) b S' d2) : EvD K S d (.rnd f at_) b S' d2
  | rndNo {d d2 : Bool} {S S1 S2 : SS} {f : Frm} {at_ u : Nat} {x : Nd} (hx : K.re[f.node]? = some x) (hm : x.mx < 0 ∨ (f.kid : Int) < x.mx) (hp : S.push { f with kid := satK x f.kid } = (u, S1)) (h : EvD K S1 d (.rndL f u at_ (ends at_ f.to)) false S2 d2) (he : ¬ (at_ = f.to ∧ x.mn ≤ (f.kid : Int))) : EvD K S d (.rnd f at_) false S2 d2
  | rnd0End {d d2 : Bool} {S S' : SS} {f : Frm} {at_ : Nat} {x : Nd} {b : Bool} (hx : K.re[f.node]? = some x) (hm : ¬ (x.mx < 0 ∨ (f.kid : Int) < x.mx)) (he : at_ = f.to ∧ x.mn ≤ (f.kid : Int)) (h' : EvD K S d (.next f.up at_) b S' d2) : EvD K S d (.rnd f at_) b S' d2
  | rnd0No {d : Bool} {S : SS} {f : Frm} {at_ : Nat} {x : Nd} (hx : K.re[f.node]? = some x) (hm : ¬ (x.mx < 0 ∨ (f.kid : Int) < x.mx)) (he : ¬ (at_ = f.to ∧ x.mn ≤ (f.kid : Int))) : EvD K S d (.rnd f at_) false S d
  | rndLNil {d : Bool} {S : SS} {f : Frm} {u at_ : Nat} : EvD K S d (.rndL f u at_ []) false S d
  | rndLBrk {d : Bool} {S : SS} {f : Frm} {u at_ e : Nat} {es : List Nat} {x : Nd} (hx : K.re[f.node]? = some x) (hb : brk x f at_ e) : EvD K S d (.rndL f u at_ (e :: es)) false S d
  | rndLYes {d d2 : Bool} {S S' : SS} {f : Frm} {u at_ e : Nat} {es : List Nat} {x : Nd} (hx : K.re[f.node]? = some x) (hb : ¬ brk x f at_ e) (h : EvD K { S with cs := fgt (K.inn (f.node + 1) (K.bh f.node)) S.cs } d (.take (f.node + 1) at_ e u) true S' d2) : EvD K S d (.rndL f u at_ (e :: es)) true S' d2
  | rndLNo {d d1 d2 : Bool} {S S1 S' : SS} {f : Frm} {u at_ e : Nat} {es : List Nat} {x : Nd} {b : Bool} (hx : K.re[f.node]? = some x) (hb : ¬ brk x f at_ e) (h : EvD K { S with cs := fgt (K.inn (f.node + 1) (K.bh f.node)) S.cs } d (.take (f.node + 1) at_ e u) false S1 d1)      (h' : EvD K { S1 with cs := rst (K.inn (f.node + 1) (K.bh f.node)) (emW (K.inn (f.node + 1) (K.bh f.node)) S.cs) S1.cs } d1 (.rndL f u at_ es) b S' d2) : EvD K S d (.rndL f u at_ (e :: es)) b S' d2
def VOp (K : SrE) (f : Frm) : Prop := ∃ x, K.re[f.node]? = some x ∧ (x.op = 4 ∨ x.op = 6 ∨ x.op = 7)
structure FV (K : SrE) (S : SS) : Prop where
  ch : Chn S.fs
  vo : ∀ f ∈ S.fs, VOp K f
  fn : S.fs.Nodup
def Kin (K : SrE) (f g : Frm) : Prop := g = { f with kid := K.bh f.kid, left := f.left - 1, fr := 0 } ∨ ∃ x, K.re[f.node]? = some x ∧ g = { f with kid := satK x f.kid }
structure Dried (K : SrE) (fs0 : List Frm) (S : SS) : Prop where
  fv : FV K S
  fs : ∃ a, S.fs = fs0 ++ a ∧ ∀ g ∈ a, ∃ f ∈ fs0, Kin K f g
theorem FV.cs {K : SrE} {S S' : SS} (h : FV K S) (h1 : S'.fs = S.fs) : FV K S' := ⟨by rw [h1]; exact h.ch, by rw [h1]; exact h.vo, by rw [h1]; exact h.fn⟩
theorem Dried.cs {K : SrE} {fs0 : List Frm} {S S' : SS} (h : Dried K fs0 S) (h1 : S'.fs = S.fs) : Dried K fs0 S' := ⟨h.fv.cs h1, by rw [h1]; exact h.fs⟩
theorem Dried.push {K : SrE} {fs0 : List Frm} {S S1 : SS} {f g : Frm} {u : Nat} (h : Dried K fs0 S) (hf : f ∈ fs0) (hk : Kin K f g) (hv : VOp K g) (hu : g.up ≤ S.fs.length) (hp : S.push g = (u, S1)) : Dried K fs0 S1 ∧ S1.cs = S.cs ∧ S1.ts = S.ts ∧ S1.fuel = S.fuel := by
  unfold SS.push at hp
  split at hp
  · cases hp; exact ⟨h, rfl, rfl, rfl⟩
  · rename_i hn
    cases hp
    obtain ⟨a, ha, hk'⟩ := h.fs
    refine ⟨⟨⟨h.fv.ch.snoc hu, fun q hq => ?_, ?_⟩, a ++ [g], ?_, fun q hq => ?_⟩, rfl, rfl, rfl⟩
    · rcases List.mem_append.1 hq with hq | hq
      · exact h.fv.vo q hq
      · rw [List.mem_singleton.1 hq]; exact hv
    · exact List.nodup_append.2 ⟨h.fv.fn, by simp, fun a ha b hb => by
        obtain rfl := List.mem_singleton.1 hb
        intro e; subst e
        exact fnd_none hn ha⟩
    · show S.fs ++ [g] = _
      rw [ha, List.append_assoc]
    · rcases List.mem_append.1 hq with hq | hq
      · exact hk' q hq
      · rw [List.mem_singleton.1 hq]; exact ⟨f, hf, hk⟩
theorem Dried.len {K : SrE} {fs0 : List Frm} {S : SS} (h : Dried K fs0 S) : fs0.length ≤ S.fs.length := by
  obtain ⟨a, ha, _⟩ := h.fs
  rw [ha, List.length_append]; omega
section
variable {K : SrE} {fs0 : List Frm}
theorem dry_rowL {S : SS} {f : Frm} {u at_ : Nat} : ∀ es : List Nat, EvD K S true (.rowL f u at_ es) false S true
  | [] => .rowLNil
  | e :: es => by
    by_cases hl : f.left = 1
    · exact .rowLLast hl (.takeDry (.inr rfl))
    · exact .rowLNo hl (.takeDry (.inr rfl)) (dry_rowL es)
theorem dry_rndL {f : Frm} {u at_ : Nat} {x : Nd} (hx : K.re[f.node]? = some x) : ∀ (es : List Nat) (S : SS), ∃ cs, EvD K S true (.rndL f u at_ es) false { S with cs := cs } true ∧ cs.length = S.cs.length
  | [], S => ⟨S.cs, .rndLNil, rfl⟩
  | e :: es, S => by
    by_cases hb : brk x f at_ e
    · exact ⟨S.cs, .rndLBrk hx hb, rfl⟩
    · obtain ⟨cs, h1, h2⟩ := dry_rndL hx es { S with cs := rst (K.inn (f.node + 1) (K.bh f.node)) (emW (K.inn (f.node + 1) (K.bh f.node)) S.cs) (fgt (K.inn (f.node + 1) (K.bh f.node)) S.cs) }
      refine ⟨cs, .rndLNo hx hb (.takeDry (.inr rfl)) h1, h2.trans ?_⟩
      show (rst _ _ _).length = _
      rw [rst_len, fgt_len]
theorem code_ts (S : SS) : (K.code S).2.ts.length ≤ S.ts.length + K.cR := by
  have h := stG_grow (chunks (K.proj S.cs)) S.ts 0
  rw [chunks_len, K.proj_len] at h
  exact h
theorem dry_next : ∀ (u : Nat), u ≤ fs0.length → ∀ (S : SS) (at_ : Nat), Dried K fs0 S → ∃ b S2, EvD K S true (.next u at_) b S2 true ∧ Dried K fs0 S2 ∧ S2.ts.length ≤ S.ts.length + K.cR * (u + 1) ∧ S2.cs.length = S.cs.length := by
  intro u
  induction u using Nat.strongRecOn with
  | ind u ih =>
    intro hu S at_ hD
    cases u with
    | zero => exact ⟨true, S, .nextZero, hD, Nat.le_add_right _ _, rfl⟩
    | succ k =>
      have hts := code_ts (K := K) S
      have hmul : K.cR * (k + 1 + 1) = K.cR * (k + 1) + K.cR := Nat.mul_succ _ _
      by_cases hm : (⟨k + 1, at_, (K.code S).1⟩ : Pt) ∈ S.F
      · exact ⟨false, _, .nextMemo hm, hD.cs rfl, by omega, rfl⟩
      · obtain ⟨a, ha, hk⟩ := hD.fs
        have hf0 : fs0[k]? = some fs0[k] := List.getElem?_eq_getElem (by omega)
        have hf : S.fs[k]? = some fs0[k] := by rw [ha, List.getElem?_append_left (by omega)]; exact hf0
        have hmem : fs0[k] ∈ fs0 := List.mem_of_getElem? hf0
        have hup := hD.fv.ch k _ hf
        have hlen := hD.len
        have hD1 : Dried K fs0 { (K.code S).2 with wk := S.wk + 1 } := hD.cs rfl
        suffices hb : ∃ b S2, EvD K { (K.code S).2 with wk := S.wk + 1 } true (.body fs0[k] at_) b S2 true ∧ Dried K fs0 S2 ∧ S2.ts.length ≤ (K.code S).2.ts.length + K.cR * (k + 1) ∧ S2.cs.length = S.cs.length by
          obtain ⟨b, S2, h1, h2, h3, h4⟩ := hb
          exact ⟨b, S2, .nextGo hm hf h1, h2, by omega, h4⟩
        obtain ⟨x, hx, ho⟩ := hD.fv.vo _ (List.mem_of_getElem? hf)
        have nxt : ∀ S1, Dried K fs0 S1 → ∃ b S2, EvD K S1 true (.next fs0[k].up at_) b S2 true ∧ Dried K fs0 S2 ∧ S2.ts.length ≤ S1.ts.length + K.cR * (k + 1) ∧ S2.cs.length = S1.cs.length := fun S1 h1 => by
          obtain ⟨b, S2, a1, a2, a3, a4⟩ := ih fs0[k].up (by omega) (by omega) S1 at_ h1
          exact ⟨b, S2, a1, a2, Nat.le_trans a3 (Nat.add_le_add_left (Nat.mul_le_mul_left _ (by omega)) _), a4⟩
        rcases ho with ho | ho | ho
        · by_cases hl : fs0[k].left = 0
          · by_cases he : at_ = fs0[k].to
            · obtain ⟨b, S2, a1, a2, a3, a4⟩ := nxt _ hD1
              exact ⟨b, S2, .bodyCat hx ho (.rowZ hl he a1), a2, a3, a4⟩
            · exact ⟨false, _, .bodyCat hx ho (.rowZN hl he), hD1, Nat.le_add_right _ _, rfl⟩
          · generalize hpu : ({ (K.code S).2 with wk := S.wk + 1 } : SS).push { fs0[k] with kid := K.bh fs0[k].kid, left := fs0[k].left - 1, fr := 0 } = pr
            obtain ⟨u', S1⟩ := pr
            obtain ⟨b1, b2, b3, b4⟩ := hD1.push hmem (.inl rfl) ⟨x, hx, .inl ho⟩ (by show fs0[k].up ≤ S.fs.length; omega) hpu
            exact ⟨false, S1, .bodyCat hx ho (.rowS (l := fs0[k].left - 1) (by omega) hpu (dry_rowL _)), b1, by rw [b3]; exact Nat.le_add_right _ _, by rw [b2]; rfl⟩
        · by_cases hmx : x.mx < 0 ∨ (fs0[k].kid : Int) < x.mx
          · generalize hpu : ({ (K.code S).2 with wk := S.wk + 1 } : SS).push { fs0[k] with kid := satK x fs0[k].kid } = pr
            obtain ⟨u', S1⟩ := pr
            obtain ⟨b1, b2, b3, b4⟩ := hD1.push hmem (.inr ⟨x, hx, rfl⟩) ⟨x, hx, .inr (.inl ho)⟩ (by show fs0[k].up ≤ S.fs.length; omega) hpu
            obtain ⟨cs, c1, c2⟩ := dry_rndL (u := u') (at_ := at_) hx (ends at_ fs0[k].to) S1
            by_cases he : at_ = fs0[k].to ∧ x.mn ≤ (fs0[k].kid : Int)
            · obtain ⟨b, S2, a1, a2, a3, a4⟩ := nxt { S1 with cs := cs } (b1.cs rfl)
              exact ⟨b, S2, .bodyRep hx ho (.rndEnd hx hmx hpu c1 he a1), a2, by rw [show ({ S1 with cs := cs } : SS).ts = S1.ts from rfl, b3] at a3; exact a3, by rw [a4]; show cs.length = _; rw [c2, b2]; rfl⟩
            · exact ⟨false, _, .bodyRep hx ho (.rndNo hx hmx hpu c1 he), b1.cs rfl, by show S1.ts.length ≤ _; rw [b3]; exact Nat.le_add_right _ _, by show cs.length = _; rw [c2, b2]; rfl⟩
          · by_cases he : at_ = fs0[k].to ∧ x.mn ≤ (fs0[k].kid : Int)
            · obtain ⟨b, S2, a1, a2, a3, a4⟩ := nxt _ hD1
              exact ⟨b, S2, .bodyRep hx ho (.rnd0End hx hmx he a1), a2, a3, a4⟩
            · exact ⟨false, _, .bodyRep hx ho (.rnd0No hx hmx he), hD1, Nat.le_add_right _ _, rfl⟩
        · obtain ⟨b, S2, a1, a2, a3, a4⟩ := nxt { (K.code S).2 with wk := S.wk + 1, cs := S.cs.set x.n.toNat ⟨fs0[k].fr, fs0[k].to⟩ } (hD1.cs rfl)
          have a4' : S2.cs.length = S.cs.length := by rw [a4]; exact List.length_set ..
          cases b with
          | true => exact ⟨true, S2, .bodyGrpY hx (by omega) (by omega) a1, a2, a3, a4'⟩
          | false => exact ⟨false, _, .bodyGrpN hx (by omega) (by omega) a1, a2.cs rfl, a3, by show (List.set _ _ _).length = _; rw [List.length_set]; exact a4'⟩
end
end Go.HL.Kl.Mc
