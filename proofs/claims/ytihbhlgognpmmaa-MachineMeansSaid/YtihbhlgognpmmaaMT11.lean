/- The code of a regex, made step by step: appended to, patched. Conditions: none. -/
import Derived.Test.YtihbhlgognpmmaaMT10
namespace Go.HL.Kl.Mc
open Go Go.HL Go.HL.Kl
theorem Ein_zero (o x y : Int) : Ein ⟨o, 0, x, y⟩ = [.int .i8 o, .int .u64 0, .int .u64 0, .int .u64 0, .int .u64 0, .int .i64 x, .int .i64 y] := by
  show _ :: (Ec 0#256 ++ _) = _
  rw [Ec_zero]; rfl
/-- the code of one node with all in it -/
def codeOne (x : Nd) (ks : F) (b : Nat) : List In := oneC x (fun b => code ks false b 0) (fun b => code ks true b (b + lenM ks true)) (lenM ks false) b
def lenT (x : Nd) (ks : F) : Nat := lenOne x (lenM ks false) (lenM ks true)
theorem codeOne_len (x : Nd) (ks : F) (b : Nat) : (codeOne x ks b).length = lenT x ks := oneC_len (fun b => code_len ks false b 0) (fun b => code_len ks true b _) b
theorem code_cat (x : Nd) (ks r : F) (b e : Nat) : code (.nd x ks r) false b e = codeOne x ks b ++ code r false (b + lenT x ks) 0 := by simp only [code, Bool.false_eq_true, if_false]; rfl
theorem code_one (x : Nd) (ks : F) (b e : Nat) : code (.nd x ks .nil) false b e = codeOne x ks b := by rw [code_cat]; simp [code]
theorem lenM_cat (x : Nd) (ks r : F) : lenM (.nd x ks r) false = lenT x ks + lenM r false := by simp [lenM, lenT]
theorem copies_snoc {c : Nat → List In} {L : Nat} : ∀ k b, copies c L (k + 1) b = copies c L k b ++ c (b + k * L)
  | 0, b => by simp [copies]
  | k + 1, b => by
    rw [copies, copies_snoc k (b + L), copies, List.append_assoc]
    congr 3
    rw [Nat.succ_mul]; omega
theorem opts_snoc {c : Nat → List In} {L e : Nat} : ∀ k b, opts c L e (k + 1) b = opts c L e k b ++ (⟨5, 0, (b + k * (L + 1) + 1 : Nat), e⟩ :: c (b + k * (L + 1) + 1))
  | 0, b => by simp [opts]
  | k + 1, b => by
    rw [opts, opts_snoc k (b + 1 + L), opts]
    simp only [List.cons_append, List.append_assoc]
    rw [show b + 1 + L + k * (L + 1) + 1 = b + (k + 1) * (L + 1) + 1 by rw [Nat.succ_mul]; omega]
theorem opts_head {c : Nat → List In} {L e k b : Nat} : opts c L e (k + 1) b = ⟨5, 0, (b + 1 : Nat), e⟩ :: (c (b + 1) ++ opts c L e k (b + 1 + L)) := rfl
theorem set_mid {α : Type} {A B : List α} {a b : α} {n : Nat} (h : A.length = n) : (A ++ a :: B).set n b = A ++ b :: B := by
  subst h
  rw [List.set_append_right _ _ (Nat.le_refl _)]
  simp
theorem get_mid {α : Type} {A B : List α} {a : α} {n : Nat} (h : A.length = n) : (A ++ a :: B)[n]? = some a := by
  subst h
  rw [List.getElem?_append_right (Nat.le_refl _)]
  simp
/-- one more of the splits patched -/
theorem opts_patch {c : Nat → List In} {L e : Nat} (hl : ∀ b, (c b).length = L) {M : List In} {q n : Nat} (hq : q < n) :
    (M ++ (opts c L e q M.length ++ opts c L 0 (n - q) (M.length + q * (L + 1))))[M.length + q * (L + 1)]? = some ⟨5, 0, (M.length + q * (L + 1) + 1 : Nat), 0⟩ ∧
    (M ++ (opts c L e q M.length ++ opts c L 0 (n - q) (M.length + q * (L + 1)))).set (M.length + q * (L + 1)) ⟨5, 0, (M.length + q * (L + 1) + 1 : Nat), e⟩ =
    M ++ (opts c L e (q + 1) M.length ++ opts c L 0 (n - (q + 1)) (M.length + (q + 1) * (L + 1))) := by
  obtain ⟨r, hr⟩ : ∃ r, n - q = r + 1 := ⟨n - q - 1, by omega⟩
  have hr2 : n - (q + 1) = r := by omega
  have h1 : (M ++ opts c L e q M.length).length = M.length + q * (L + 1) := by rw [List.length_append, opts_len hl]
  rw [hr, hr2, opts_head, ← List.append_assoc]
  refine ⟨get_mid h1, ?_⟩
  rw [set_mid h1, opts_snoc, show M.length + (q + 1) * (L + 1) = M.length + q * (L + 1) + 1 + L by rw [Nat.succ_mul]; omega]
  simp [List.append_assoc]
theorem star_fin {x : Nd} {c : Nat → List In} {L : Nat} {m m1 : List In} (hcl : ∀ b, (c b).length = L) (hmx : x.mx = -1) (hm1 : m1 = m ++ copies c L x.mn.toNat m.length) :
    (m1 ++ (⟨5, 0, (m1.length + 1 : Nat), (m1.length + L + 2 : Nat)⟩ : In) :: (c (m1.length + 1) ++ [⟨4, 0, (m1.length : Nat), 0⟩])) = m ++ repC x c L m.length := by
  have hl : m1.length = m.length + x.mn.toNat * L := by rw [hm1, List.length_append, copies_len hcl]
  unfold repC
  rw [hl, hm1]
  simp only [hmx, if_true, List.append_assoc]
theorem opts_fin {x : Nd} {c : Nat → List In} {L k : Nat} {m m1 : List In} (hcl : ∀ b, (c b).length = L) (hmx : ¬ x.mx = -1) (hm1 : m1 = m ++ copies c L x.mn.toNat m.length) (hk : k = (x.mx - x.mn).toNat) :
    m1 ++ opts c L (m1.length + k * (L + 1)) k m1.length = m ++ repC x c L m.length := by
  have hl : m1.length = m.length + x.mn.toNat * L := by rw [hm1, List.length_append, copies_len hcl]
  unfold repC
  subst hk
  rw [hl, hm1]
  simp only [hmx, if_false, List.append_assoc]
/-- of alternatives: the places of the jumps -/
def jmps : F → Nat → List Nat
  | .nil, _ => []
  | .nd x ks r, b => match r with
    | .nil => []
    | _ => (b + 1 + lenT x ks) :: jmps r (b + lenT x ks + 2)
theorem jmps_more (x : Nd) (ks : F) (y : Nd) (js s : F) (b : Nat) : jmps (.nd x ks (.nd y js s)) b = (b + 1 + lenT x ks) :: jmps (.nd y js s) (b + lenT x ks + 2) := rfl
theorem code_more (x : Nd) (ks : F) (y : Nd) (js s : F) (b e : Nat) : code (.nd x ks (.nd y js s)) true b e = ⟨5, 0, (b + 1 : Nat), (b + lenT x ks + 2 : Nat)⟩ :: (codeOne x ks (b + 1) ++ (⟨4, 0, e, 0⟩ :: code (.nd y js s) true (b + lenT x ks + 2) e)) := rfl
theorem code_last (x : Nd) (ks : F) (b e : Nat) : code (.nd x ks .nil) true b e = codeOne x ks b := rfl
theorem lenM_more (x : Nd) (ks : F) (y : Nd) (js s : F) : lenM (.nd x ks (.nd y js s)) true = lenT x ks + 2 + lenM (.nd y js s) true := rfl
theorem lenM_last (x : Nd) (ks : F) : lenM (.nd x ks .nil) true = lenT x ks := by simp [lenM, lenT]
/-- the jumps patched, the first j of them -/
def patch (l : List In) (ps : List Nat) (e : Nat) : List In := ps.foldl (fun l p => l.set p ⟨4, 0, e, 0⟩) l
theorem patch_len (ps : List Nat) (e : Nat) : ∀ l, (patch l ps e).length = l.length := by
  induction ps with
  | nil => intro l; rfl
  | cons p ps ih => intro l; simp only [patch, List.foldl_cons] at ih ⊢; rw [ih]; simp
theorem patch_snoc (l : List In) (ps : List Nat) (p e : Nat) : patch l (ps ++ [p]) e = (patch l ps e).set p ⟨4, 0, e, 0⟩ := by simp [patch]
theorem patch_alt (e : Nat) : ∀ (f : F) (M : List In), patch (M ++ code f true M.length 0) (jmps f M.length) e = M ++ code f true M.length e
  | .nil, M => rfl
  | .nd x ks .nil, M => rfl
  | .nd x ks (.nd y js s), M => by
    rw [jmps_more, code_more, code_more]
    have h1 : (M ++ (⟨5, 0, (M.length + 1 : Nat), (M.length + lenT x ks + 2 : Nat)⟩ :: codeOne x ks (M.length + 1)) : List In).length = M.length + 1 + lenT x ks := by
      simp only [List.length_append, List.length_cons, codeOne_len]; omega
    have e1 : ∀ (t : In) (B : List In), M ++ ((⟨5, 0, (M.length + 1 : Nat), (M.length + lenT x ks + 2 : Nat)⟩ : In) :: (codeOne x ks (M.length + 1) ++ (t :: B))) = (M ++ (⟨5, 0, (M.length + 1 : Nat), (M.length + lenT x ks + 2 : Nat)⟩ :: codeOne x ks (M.length + 1))) ++ t :: B := by intro t B; simp
    show patch ((M ++ _).set _ _) _ e = _
    rw [e1, set_mid h1, e1]
    have h2 := patch_alt e (.nd y js s) ((M ++ (⟨5, 0, (M.length + 1 : Nat), (M.length + lenT x ks + 2 : Nat)⟩ :: codeOne x ks (M.length + 1))) ++ [⟨4, 0, (e : Int), 0⟩])
    have h3 : ((M ++ (⟨5, 0, (M.length + 1 : Nat), (M.length + lenT x ks + 2 : Nat)⟩ :: codeOne x ks (M.length + 1))) ++ [(⟨4, 0, (e : Int), 0⟩ : In)]).length = M.length + lenT x ks + 2 := by
      rw [List.length_append, h1]; simp; omega
    rw [h3] at h2
    simp only [List.append_assoc, List.singleton_append, List.cons_append] at h2 ⊢
    exact h2
end Go.HL.Kl.Mc
