/- The code of a node, by its kind; the jumps of alternatives. Conditions: none. -/
import Derived.Test.YtihbhlgognpmmaaMT11
namespace Go.HL.Kl.Mc
open Go Go.HL Go.HL.Kl
section
variable {x : Nd} {ks : F} {b : Nat}
theorem codeOne_1 (h : x.op = 1) : codeOne x ks b = [⟨1, x.set, 0, 0⟩] := by simp [codeOne, oneC, h]
theorem codeOne_2 (h : x.op = 2) : codeOne x ks b = [⟨2, 0, 0, 0⟩] := by simp [codeOne, oneC, h]
theorem codeOne_3 (h : x.op = 3) : codeOne x ks b = [⟨3, 0, 0, 0⟩] := by simp [codeOne, oneC, h]
theorem codeOne_5 (h : x.op = 5) : codeOne x ks b = code ks true b (b + lenM ks true) := by simp [codeOne, oneC, h]
theorem codeOne_6 (h : x.op = 6) : codeOne x ks b = repC x (fun b => code ks false b 0) (lenM ks false) b := by simp [codeOne, oneC, h]
theorem codeOne_c (h1 : x.op ≠ 1) (h2 : x.op ≠ 2) (h3 : x.op ≠ 3) (h5 : x.op ≠ 5) (h6 : x.op ≠ 6) : codeOne x ks b = code ks false b 0 := by simp [codeOne, oneC, h1, h2, h3, h5, h6]
theorem lenT_s (h : x.op = 1 ∨ x.op = 2 ∨ x.op = 3) : lenT x ks = 1 := by rw [lenT, lenOne, if_pos h]
theorem lenT_5 (h : x.op = 5) : lenT x ks = lenM ks true := by rw [lenT, lenOne, if_neg (by omega), if_pos h]
theorem lenT_6 (h : x.op = 6) : lenT x ks = x.mn.toNat * lenM ks false + (if x.mx = -1 then lenM ks false + 2 else (x.mx - x.mn).toNat * (lenM ks false + 1)) := by rw [lenT, lenOne, if_neg (by omega), if_neg (by omega), if_pos h]
theorem lenT_c (h1 : x.op ≠ 1) (h2 : x.op ≠ 2) (h3 : x.op ≠ 3) (h5 : x.op ≠ 5) (h6 : x.op ≠ 6) : lenT x ks = lenM ks false := by rw [lenT, lenOne, if_neg (by omega), if_neg h5, if_neg h6]
end
/-- a repetition's one kid -/
theorem rep_kid {x : Nd} {ks : F} (hw : (F.nd x ks .nil).wf) (h6 : x.op = 6) : ∃ y js, ks = .nd y js .nil := by
  have hk : x.kids = 1 := by
    have h := hw.1
    simp only [ndOk, Bool.and_eq_true, kidsOk] at h
    have h := h.2
    rw [if_pos (.inl h6)] at h
    simpa using h
  have hn := hw.2.1
  cases ks with
  | nil => simp [F.num] at hn; omega
  | nd y js r =>
    cases r with
    | nil => exact ⟨y, js, rfl⟩
    | nd _ _ _ => simp only [F.num] at hn; omega
theorem alt_ne {x : Nd} {ks : F} (hw : (F.nd x ks .nil).wf) (h5 : x.op = 5) : ks ≠ .nil := by
  rintro rfl
  have := alt_kids hw.1 h5
  have := hw.2.1
  simp [F.num] at this
  omega
def IsJ (l : List In) (p : Nat) : Prop := ∃ v : Int, l[p]? = some ⟨4, 0, v, 0⟩
theorem jmps_isJ : ∀ (f : F) (M : List In), ∀ p ∈ jmps f M.length, IsJ (M ++ code f true M.length 0) p
  | .nil, M, p, h => by cases h
  | .nd x ks .nil, M, p, h => by cases h
  | .nd x ks (.nd y js s), M, p, h => by
    rw [jmps_more] at h
    rw [code_more]
    have h1 : (M ++ (⟨5, 0, (M.length + 1 : Nat), (M.length + lenT x ks + 2 : Nat)⟩ :: codeOne x ks (M.length + 1)) : List In).length = M.length + 1 + lenT x ks := by
      simp only [List.length_append, List.length_cons, codeOne_len]; omega
    have e1 : ∀ (t : In) (B : List In), M ++ ((⟨5, 0, (M.length + 1 : Nat), (M.length + lenT x ks + 2 : Nat)⟩ : In) :: (codeOne x ks (M.length + 1) ++ (t :: B))) = (M ++ (⟨5, 0, (M.length + 1 : Nat), (M.length + lenT x ks + 2 : Nat)⟩ :: codeOne x ks (M.length + 1))) ++ t :: B := by intro t B; simp
    rw [e1]
    rcases List.mem_cons.1 h with rfl | h
    · exact ⟨_, get_mid h1⟩
    · have h2 := jmps_isJ (.nd y js s) ((M ++ (⟨5, 0, (M.length + 1 : Nat), (M.length + lenT x ks + 2 : Nat)⟩ :: codeOne x ks (M.length + 1))) ++ [⟨4, 0, ((0 : Nat) : Int), 0⟩]) p
      have h3 : ((M ++ (⟨5, 0, (M.length + 1 : Nat), (M.length + lenT x ks + 2 : Nat)⟩ :: codeOne x ks (M.length + 1))) ++ [(⟨4, 0, ((0 : Nat) : Int), 0⟩ : In)]).length = M.length + lenT x ks + 2 := by
        rw [List.length_append, h1]; simp; omega
      rw [h3] at h2
      have h4 := h2 h
      rw [List.append_assoc] at h4
      exact h4
theorem patch_isJ {e : Nat} (ps : List Nat) : ∀ (l : List In) (p : Nat), IsJ l p → IsJ (patch l ps e) p := by
  induction ps with
  | nil => intro l p h; exact h
  | cons q ps ih =>
    intro l p h
    refine ih _ p ?_
    by_cases e : q = p
    · subst e
      obtain ⟨v, hv⟩ := h
      exact ⟨_, List.getElem?_set_self (List.getElem?_eq_some_iff.1 hv).1⟩
    · obtain ⟨v, hv⟩ := h
      exact ⟨v, by rw [List.getElem?_set_ne e]; exact hv⟩
theorem patch_take {l : List In} {ps : List Nat} {q p e : Nat} (h : ps[q]? = some p) : (patch l (ps.take q) e).set p ⟨4, 0, e, 0⟩ = patch l (ps.take (q + 1)) e := by
  rw [List.take_add_one, h]
  exact (patch_snoc _ _ _ _).symm
/-- one more of the alternatives -/
theorem alt_step {y z : Nd} {ks1 js s : F} {m2 : List In} : m2 ++ code (.nd y ks1 (.nd z js s)) true m2.length 0 =
    (m2 ++ (⟨5, 0, (m2.length + 1 : Nat), (m2.length + 1 + lenT y ks1 + 1 : Nat)⟩ :: (codeOne y ks1 (m2.length + 1) ++ [⟨4, 0, 0, 0⟩]))) ++ code (.nd z js s) true (m2.length + 1 + lenT y ks1 + 1) 0 := by
  rw [code_more, show m2.length + lenT y ks1 + 2 = m2.length + 1 + lenT y ks1 + 1 by omega]
  simp
end Go.HL.Kl.Mc
