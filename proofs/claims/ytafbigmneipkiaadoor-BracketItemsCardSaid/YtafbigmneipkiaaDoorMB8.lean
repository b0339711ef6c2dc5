/- Part of the proofs over this seat: see the text that holds the theorem. Conditions: each theorem bears its own. -/
import Derived.Test.YtafbigmneipkiaaDoorMB4
import Derived.Test.YtafbigmneipkiaaDoorHlB
namespace Go.HL.Kl.Bk
open Go Go.HL Go.Tab

/-- an item of the law: a kind, two bytes, a number -/
structure It where
  k : Int
  a : UInt8
  b : UInt8
  n : Int
def Eit (t : It) : List Value := [.int .i64 t.k, .int .u8 t.a.toNat, .int .u8 t.b.toNat, .int .i64 t.n]
instance : Enc Eit 4 := ⟨fun _ => rfl, fun _ _ h => by simp [Eit] at h; rcases h with rfl | rfl | rfl | rfl <;> rfl⟩
theorem wi_of (k : Int) (m : Nat) (hm : 0 < m) : (if k.tmod (m : Int) < 0 then k.tmod (m : Int) + m else k.tmod (m : Int)) = k % (m : Int) := by
  have h1 := Int.tmod_add_mul_tdiv k m
  have h2 := Int.emod_add_mul_ediv k m
  have h3 := Int.emod_nonneg k (show (m : Int) ≠ 0 by omega)
  have h4 := Int.emod_lt_of_pos k (show (0 : Int) < m by omega)
  rcases Int.le_total 0 k with h | h
  · rw [Int.tmod_eq_emod_of_nonneg h, if_neg (by omega)]
  · have e : k.tmod (m : Int) = -((-k) % (m : Int)) := by
      rw [← Int.tmod_eq_emod_of_nonneg (by omega), Int.neg_tmod, Int.neg_neg]
    have h5 := Int.emod_nonneg (-k) (show (m : Int) ≠ 0 by omega)
    have h6 := Int.emod_lt_of_pos (-k) (show (0 : Int) < m by omega)
    rw [e]
    have h7 := Int.emod_add_mul_ediv (-k) m
    by_cases hz : (-k) % (m : Int) = 0
    · rw [hz]
      have : k % (m : Int) = 0 := Int.emod_eq_zero_of_dvd (Int.dvd_neg.1 (Int.dvd_of_emod_eq_zero hz))
      rw [this]; simp
    · rw [if_pos (by omega)]
      have h8 : (-k) % (m : Int) + k % (m : Int) = m * (-((-k) / m) - k / m) := by
        rw [Int.mul_sub, Int.mul_neg]; omega
      generalize hq : -((-k) / m) - k / m = q at h8
      have hq1 : (0 : Int) < m * q := by omega
      have hq2 : (m : Int) * q < m * 2 := by omega
      have hm' : (0 : Int) < m := by omega
      have q1 : 0 < q := Int.lt_of_mul_lt_mul_left (a := (m : Int)) (by rw [Int.mul_zero]; exact hq1) (Int.le_of_lt hm')
      have q2 := Int.lt_of_mul_lt_mul_left hq2 (Int.le_of_lt hm')
      have : q = 1 := by omega
      rw [this, Int.mul_one] at h8
      omega
theorem tmod_lt (k : Int) (m : Nat) (hm : 0 < m) : -(m : Int) < k.tmod m ∧ k.tmod m < m := by
  have h := Int.tmod_lt_of_pos k (show (0 : Int) < m by omega)
  have h2 := Int.lt_tmod_of_pos k (show (0 : Int) < m by omega)
  omega
/-- the names -/
def nms : List ByteArray := [⟨#[97, 108, 110, 117, 109]⟩, ⟨#[97, 108, 112, 104, 97]⟩, ⟨#[98, 108, 97, 110, 107]⟩, ⟨#[99, 110, 116, 114, 108]⟩, ⟨#[100, 105, 103, 105, 116]⟩, ⟨#[103, 114, 97, 112, 104]⟩, ⟨#[108, 111, 119, 101, 114]⟩, ⟨#[112, 114, 105, 110, 116]⟩, ⟨#[112, 117, 110, 99, 116]⟩, ⟨#[115, 112, 97, 99, 101]⟩, ⟨#[117, 112, 112, 101, 114]⟩, ⟨#[120, 100, 105, 103, 105, 116]⟩]
theorem nms_has {s : ByteArray} (h : s ∈ nms) : ∃ c, named s = some c := by
  simp only [nms, List.mem_cons, List.not_mem_nil, or_false] at h
  rcases h with rfl | rfl | rfl | rfl | rfl | rfl | rfl | rfl | rfl | rfl | rfl | rfl
  · exact ⟨_, named_alnum⟩
  · exact ⟨_, named_alpha⟩
  · exact ⟨_, named_blank⟩
  · exact ⟨_, named_cntrl⟩
  · exact ⟨_, named_digit⟩
  · exact ⟨_, named_graph⟩
  · exact ⟨_, named_lower⟩
  · exact ⟨_, named_print⟩
  · exact ⟨_, named_punct⟩
  · exact ⟨_, named_space⟩
  · exact ⟨_, named_upper⟩
  · exact ⟨_, named_xdigit⟩
theorem nms_ok {s : ByteArray} (h : s ∈ nms) : s.size ≤ 6 ∧ ∀ b ∈ s.data.toList, b ≠ 58 := by
  simp only [nms, List.mem_cons, List.not_mem_nil, or_false] at h
  rcases h with rfl | rfl | rfl | rfl | rfl | rfl | rfl | rfl | rfl | rfl | rfl | rfl <;> exact ⟨by decide +kernel, by decide +kernel⟩
def nmAt (n : Int) : ByteArray := nms.getD (n % 12).toNat ⟨#[]⟩
theorem nmAt_get (n : Int) : nms[(n % 12).toNat]? = some (nmAt n) := by
  have : (n % 12).toNat < nms.length := by simp [nms]; omega
  simp [nmAt, List.getD, List.getElem?_eq_getElem this]
theorem nmAt_mem (n : Int) : nmAt n ∈ nms := List.mem_of_getElem? (nmAt_get n)
def lo (t : It) : UInt8 := if t.b.toNat < t.a.toNat then t.b else t.a
def hi (t : It) : UInt8 := if t.b.toNat < t.a.toNat then t.a else t.b
/-- the marks of an item, and its class -/
def pc (t : It) : List Mk × Cl :=
  if t.k % 5 = 0 then ([⟨t.a, true⟩], ofL [t.a])
  else if t.k % 5 = 1 then (encM 46 t.a, ofL [t.a])
  else if t.k % 5 = 2 then (encM 61 t.a, ofL [t.a])
  else if t.k % 5 = 3 then (encM 46 (lo t) ++ [sgn 45] ++ encM 46 (hi t), rng (lo t).toNat (hi t).toNat)
  else (nameM (nmAt t.n).data.toList, (named (nmAt t.n)).getD 0)
theorem pc_item (t : It) : Item1 (pc t).1 (pc t).2 := by
  unfold pc
  split
  · exact item_plain _
  · split
    · exact item_enc 46 _ (.inl rfl)
    · split
      · exact item_enc 61 _ (.inr rfl)
      · split
        · refine item_range _ _ ?_
          unfold lo hi
          split <;> omega
        · obtain ⟨c, hc⟩ := nms_has (nmAt_mem t.n)
          obtain ⟨_, hb⟩ := nms_ok (nmAt_mem t.n)
          rw [hc]
          exact item_name _ hb c hc
theorem pc_len (t : It) : (pc t).1.length ≤ 11 := by
  unfold pc
  split
  · simp
  · split
    · simp [encM]
    · split
      · simp [encM]
      · split
        · simp [encM]
        · have := (nms_ok (nmAt_mem t.n)).1
          simp [nameM]; omega
theorem flatM_pcs (l : List It) (i : Nat) (t : It) (h : l[i]? = some t) : flatM ((l.take (i + 1)).map pc) = flatM ((l.take i).map pc) ++ (pc t).1 := by
  rw [List.take_add_one, h, List.map_append]
  exact flatM_snoc _ _
theorem orC_pcs (l : List It) (i : Nat) (t : It) (h : l[i]? = some t) : orC ((l.take (i + 1)).map pc) = orC ((l.take i).map pc) ||| (pc t).2 := by
  rw [List.take_add_one, h, List.map_append]
  exact orC_snoc _ _
theorem name_marks (s : ByteArray) : ((⟨#[91, 58]⟩ ++ s) ++ ⟨#[58, 93]⟩ : ByteArray).data.toList.map sgn = nameM s.data.toList := by
  simp [nameM, ByteArray.data_append]
theorem items_law (no : Bool) (l : List It) (h : l ≠ []) (n : Int) (M : List Mk) (hM : M = sgn 91 :: ((if no = true then [sgn 94] else []) ++ flatM (l.map pc))) (hn : n = (M ++ [sgn 93]).length) :
    parseP (M ++ [sgn 93]) 0 = ((if no = true then ~~~(orC (l.map pc)) else orC (l.map pc)), n, 0) := by
  have := items_parse no (l.map pc) (by simpa using h) (fun q hq => by
    obtain ⟨t, _, rfl⟩ := List.mem_map.1 hq
    exact pc_item t)
  have e : M ++ [sgn 93] = sgn 91 :: ((if no = true then [sgn 94] else []) ++ (flatM (l.map pc) ++ [sgn 93])) := by rw [hM]; simp
  rw [hn, e]
  exact this
end Go.HL.Kl.Bk
