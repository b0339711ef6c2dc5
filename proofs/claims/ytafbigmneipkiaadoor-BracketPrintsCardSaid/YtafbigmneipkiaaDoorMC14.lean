/- Part of the proofs over this seat: see the text that holds the theorem. Conditions: each theorem bears its own. -/
import Derived.Test.YtafbigmneipkiaaDoorMC13
namespace Go.HL.Kl
open Go Go.HL
def mt (c a : Cl) : Bool := decide (c &&& a = 0#256)
theorem apart_step {l : List Cl} {j : Nat} {cj ai ak : Cl} (hcj : l[j]? = some cj) (h : ∀ q c, q < j → l[q]? = some c → mt c ai = mt c ak) : decide (mt cj ai ≠ mt cj ak) = false → ∀ q c, q < j + 1 → l[q]? = some c → mt c ai = mt c ak := by
  intro hd q c hq hc
  have hd := of_decide_eq_false hd
  rcases Nat.lt_or_ge q j with h1 | h1
  · exact h q c h1 hc
  · obtain rfl : q = j := by omega
    rw [hcj] at hc; cases hc
    exact Decidable.not_not.1 hd
/-- the classes, put together -/
def orA (l : List Cl) : Cl := l.foldl (fun c a => c ||| a) 0
theorem orA_snoc (l : List Cl) (a : Cl) : orA (l ++ [a]) = orA l ||| a := by simp [orA]
theorem orA_step {l : List Cl} {i : Nat} {a : Cl} (h : l[i]? = some a) : orA (l.take (i + 1)) = orA (l.take i) ||| a := by
  rw [List.take_add_one, h]; exact orA_snoc _ _
theorem orA_get (l : List Cl) (x : Nat) : (orA l).getLsbD x = l.any (fun a => a.getLsbD x) := by
  have key : ∀ (l : List Cl) (c : Cl), (l.foldl (fun c a => c ||| a) c).getLsbD x = (c.getLsbD x || l.any (fun a => a.getLsbD x)) := by
    intro l
    induction l with
    | nil => intro c; simp
    | cons a l ih => intro c; rw [List.foldl_cons, ih, BitVec.getLsbD_or, List.any_cons, Bool.or_assoc]
  have := key l 0
  simpa [orA] using this
theorem atoms_ne {l : List Cl} {i : Nat} {a : Cl} (h : (atoms l)[i]? = some a) : a ≠ 0#256 := (atoms_pi l).dj.ne a (List.mem_of_getElem? h)
theorem and_zero_of {a b : Cl} (h : ∀ x, x < 256 → a.getLsbD x = true → b.getLsbD x = true → False) : a &&& b = 0#256 := by
  apply cl_ext
  intro x hx
  rw [BitVec.getLsbD_and]
  cases ha : a.getLsbD x <;> cases hb : b.getLsbD x <;> simp
  exact h x hx ha hb
theorem and_zero_bit {a b : Cl} (h : a &&& b = 0#256) {x : Nat} (ha : a.getLsbD x = true) (hb : b.getLsbD x = true) : False := by
  have := congrArg (fun c => BitVec.getLsbD c x) h
  simp only [BitVec.getLsbD_and, ha, hb, Bool.and_self, BitVec.getLsbD_zero] at this
  cases this
theorem ap_get {l : List Cl} (h : l.Pairwise (fun a b => a &&& b = 0#256)) {i k : Nat} {a b : Cl} (hk : l[k]? = some b) (hi : l[i]? = some a) (hki : k < i) : b &&& a = 0#256 := by
  obtain ⟨h1, rfl⟩ := List.getElem?_eq_some_iff.1 hk
  obtain ⟨h2, rfl⟩ := List.getElem?_eq_some_iff.1 hi
  exact List.pairwise_iff_getElem.1 h k i h1 h2 hki
theorem orA_dis {l : List Cl} {i : Nat} {a : Cl} (h : (atoms l)[i]? = some a) : orA ((atoms l).take i) &&& a = 0#256 := by
  refine and_zero_of fun x hx h1 h2 => ?_
  rw [orA_get] at h1
  obtain ⟨b, hb, hbx⟩ := List.any_eq_true.1 h1
  obtain ⟨k, hk⟩ := List.mem_iff_getElem?.1 hb
  rw [List.getElem?_take] at hk
  split at hk
  · rename_i hki
    exact and_zero_bit (ap_get (atoms_pi l).dj.ap hk h hki) hbx h2
  · cases hk
theorem orA_atoms (l : List Cl) : orA (atoms l) = rng 0 255 := by
  apply cl_ext
  intro x hx
  rw [orA_get, rng_all hx]
  obtain ⟨a, ha, hax⟩ := (atoms_pi l).all x hx
  exact List.any_eq_true.2 ⟨a, ha, hax⟩
theorem mt_bit {l : List Cl} {c a : Cl} (hc : c ∈ l) (ha : a ∈ atoms l) {x : Nat} (hx : a.getLsbD x = true) : mt c a = !c.getLsbD x := by
  have hx' := lt_of_bit hx
  cases hcx : c.getLsbD x
  · refine decide_eq_true (and_zero_of fun y hy h1 h2 => ?_)
    rw [(atoms_pi l).eq a ha x hx, cls_get l x hy] at h2
    have := List.all_eq_true.1 h2 c hc
    simp [hcx, h1] at this
  · exact decide_eq_false fun h => and_zero_bit h hcx hx
theorem atoms_apart {l : List Cl} {i k j : Nat} {ai ak : Cl} (hai : (atoms l)[i]? = some ai) (hak : (atoms l)[k]? = some ak) (hki : k < i) (hall : ∀ q c, q < j → l[q]? = some c → mt c ai = mt c ak) (hj : l.length ≤ j) : False := by
  obtain ⟨x, hx, hax⟩ := ne_bit (atoms_ne hai)
  obtain ⟨y, hy, hay⟩ := ne_bit (atoms_ne hak)
  have mi := List.mem_of_getElem? hai
  have mk := List.mem_of_getElem? hak
  have hal : alike l x y = true := by
    refine List.all_eq_true.2 fun c hc => ?_
    obtain ⟨q, hq⟩ := List.mem_iff_getElem?.1 hc
    have hql : q < l.length := (List.getElem?_eq_some_iff.1 hq).1
    have := hall q c (by omega) hq
    rw [mt_bit hc mi hax, mt_bit hc mk hay] at this
    simpa using this
  have h1 : ai.getLsbD y = true := by rw [(atoms_pi l).eq ai mi x hax, cls_get l x hy]; exact hal
  exact and_zero_bit (ap_get (atoms_pi l).dj.ap hak hai hki) hay h1
/-- those that c meets, put together -/
def orM (c : Cl) (l : List Cl) : Cl := orA (l.filter fun a => !mt c a)
theorem orM_yes {c : Cl} {l : List Cl} {i : Nat} {a : Cl} (h : l[i]? = some a) (hm : c &&& a ≠ 0#256) : orM c (l.take (i + 1)) = orM c (l.take i) ||| a := by
  unfold orM
  have : mt c a = false := decide_eq_false hm
  rw [List.take_add_one, h, Option.toList_some, List.filter_append]
  simp [this, orA_snoc]
theorem orM_no {c : Cl} {l : List Cl} {i : Nat} {a : Cl} (h : l[i]? = some a) (hm : ¬ c &&& a ≠ 0#256) : orM c (l.take (i + 1)) = orM c (l.take i) := by
  unfold orM
  have : mt c a = true := decide_eq_true (Decidable.not_not.1 hm)
  rw [List.take_add_one, h, Option.toList_some, List.filter_append]
  simp [this]
theorem orM_atoms {l : List Cl} {c : Cl} (hc : c ∈ l) : orM c (atoms l) = c := by
  apply cl_ext
  intro x hx
  unfold orM
  rw [orA_get]
  obtain ⟨a, ha, hax⟩ := (atoms_pi l).all x hx
  cases hcx : c.getLsbD x
  · rw [List.any_eq_false]
    intro b hb hbx
    obtain ⟨hb1, hb2⟩ := List.mem_filter.1 hb
    rw [mt_bit hc hb1 hbx, hcx] at hb2
    simp at hb2
  · refine List.any_eq_true.2 ⟨a, List.mem_filter.2 ⟨ha, ?_⟩, hax⟩
    rw [mt_bit hc ha hax, hcx]; rfl
end Go.HL.Kl
