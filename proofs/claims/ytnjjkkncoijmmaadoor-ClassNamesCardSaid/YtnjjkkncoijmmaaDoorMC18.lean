/- Part of the proofs over this seat: see the text that holds the theorem. Conditions: each theorem bears its own. -/
import Derived.Test.YtnjjkkncoijmmaaDoorMC17
namespace Go.HL.Kl
open Go Go.HL
def nmT : List ByteArray := [⟨#[97, 108, 110, 117, 109]⟩, ⟨#[97, 108, 112, 104, 97]⟩, ⟨#[98, 108, 97, 110, 107]⟩, ⟨#[99, 110, 116, 114, 108]⟩, ⟨#[100, 105, 103, 105, 116]⟩, ⟨#[103, 114, 97, 112, 104]⟩, ⟨#[108, 111, 119, 101, 114]⟩, ⟨#[112, 114, 105, 110, 116]⟩, ⟨#[112, 117, 110, 99, 116]⟩, ⟨#[115, 112, 97, 99, 101]⟩, ⟨#[117, 112, 112, 101, 114]⟩, ⟨#[120, 100, 105, 103, 105, 116]⟩]
def nmS : List Nat := [62, 52, 2, 33, 10, 94, 26, 95, 32, 6, 26, 22]
def nmC : List Cl := [nmAN, nmU ||| nmL, ofL [32, 9], rng 0 31 ||| ofL [127], nmD, rng 33 126, nmL, rng 32 126, rng 33 126 &&& ~~~nmAN, rng 9 13 ||| ofL [32], nmU, nmD ||| (rng 65 70 ||| rng 97 102)]
def nmTV : List Value := [.string ⟨#[97, 108, 110, 117, 109]⟩, .string ⟨#[97, 108, 112, 104, 97]⟩, .string ⟨#[98, 108, 97, 110, 107]⟩, .string ⟨#[99, 110, 116, 114, 108]⟩, .string ⟨#[100, 105, 103, 105, 116]⟩, .string ⟨#[103, 114, 97, 112, 104]⟩, .string ⟨#[108, 111, 119, 101, 114]⟩, .string ⟨#[112, 114, 105, 110, 116]⟩, .string ⟨#[112, 117, 110, 99, 116]⟩, .string ⟨#[115, 112, 97, 99, 101]⟩, .string ⟨#[117, 112, 112, 101, 114]⟩, .string ⟨#[120, 100, 105, 103, 105, 116]⟩]
def nmSV : List Value := [.int .i64 62, .int .i64 52, .int .i64 2, .int .i64 33, .int .i64 10, .int .i64 94, .int .i64 26, .int .i64 95, .int .i64 32, .int .i64 6, .int .i64 26, .int .i64 22]
theorem nmTV_one : ∀ v ∈ nmTV, v.oneCell' = true := by simp [nmTV, Value.oneCell']
theorem nmSV_one : ∀ v ∈ nmSV, v.oneCell' = true := by simp [nmSV, Value.oneCell']
theorem zz48 : flat Ec (List.replicate 12 0#256) = List.replicate 48 (.int .u64 0) := by simp [flat, Ec_zero, List.replicate]
theorem cases12 {p : Nat → Prop} {i : Nat} (hi : i < 12) (h0 : p 0) (h1 : p 1) (h2 : p 2) (h3 : p 3) (h4 : p 4) (h5 : p 5) (h6 : p 6) (h7 : p 7) (h8 : p 8) (h9 : p 9) (h10 : p 10) (h11 : p 11) : p i := by
  match i, hi with
  | 0, _ => exact h0
  | 1, _ => exact h1
  | 2, _ => exact h2
  | 3, _ => exact h3
  | 4, _ => exact h4
  | 5, _ => exact h5
  | 6, _ => exact h6
  | 7, _ => exact h7
  | 8, _ => exact h8
  | 9, _ => exact h9
  | 10, _ => exact h10
  | 11, _ => exact h11
theorem nmTV_get {i : Nat} (hi : i < 12) : nmTV[i]? = some (.string (nmT.getD i ⟨#[]⟩)) := cases12 (p := fun i => nmTV[i]? = some (.string (nmT.getD i ⟨#[]⟩))) hi rfl rfl rfl rfl rfl rfl rfl rfl rfl rfl rfl rfl
theorem nmSV_get {i : Nat} (hi : i < 12) : nmSV[i]? = some (.int .i64 (nmS.getD i 0 : Nat)) := cases12 (p := fun i => nmSV[i]? = some (.int .i64 (nmS.getD i 0 : Nat))) hi rfl rfl rfl rfl rfl rfl rfl rfl rfl rfl rfl rfl
theorem nm_named {i : Nat} (hi : i < 12) : named (nmT.getD i ⟨#[]⟩) = some (nmC.getD i 0) := cases12 (p := fun i => named (nmT.getD i ⟨#[]⟩) = some (nmC.getD i 0)) hi named_alnum named_alpha named_blank named_cntrl named_digit named_graph named_lower named_print named_punct named_space named_upper named_xdigit
theorem nm_size {i : Nat} (hi : i < 12) : size (nmC.getD i 0) = nmS.getD i 0 := (by decide +kernel : ∀ i : Fin 12, size (nmC.getD i.val 0) = nmS.getD i.val 0) ⟨i, hi⟩
theorem nm_low {i : Nat} (hi : i < 12) : nmC.getD i 0 &&& rng 128 255 = 0#256 := (by decide +kernel : ∀ i : Fin 12, nmC.getD i.val 0 &&& rng 128 255 = 0#256) ⟨i, hi⟩
theorem nm_high {i b : Nat} (hi : i < 12) (h : 127 < b) (hb : b < 256) : (nmC.getD i 0).getLsbD b = false := by
  cases e : (nmC.getD i 0).getLsbD b
  · rfl
  · exact (and_zero_bit (nm_low hi) e (by rw [rng_get hb]; simp; omega)).elim
theorem nm_len {i : Nat} (hi : i < 12) : (nmC.take i ++ List.replicate (12 - i) 0#256).length = 12 := by
  have : nmC.length = 12 := rfl
  simp; omega
theorem nmC_step {i : Nat} (hi : i < 12) : (nmC.take i ++ List.replicate (12 - i) 0#256).set i (nmC.getD i 0) = nmC.take (i + 1) ++ List.replicate (12 - (i + 1)) 0#256 := by
  have h12 : nmC.length = 12 := rfl
  have hl : (nmC.take i).length = i := by simp; omega
  have hg : nmC[i]? = some (nmC.getD i 0) := by rw [List.getD_eq_getElem?_getD, List.getElem?_eq_getElem (by omega)]; rfl
  rw [List.set_append_right _ _ (by omega), hl, Nat.sub_self, List.take_add_one, hg, show 12 - i = (12 - (i + 1)) + 1 by omega]
  simp [List.replicate_succ]
theorem nmC_end : nmC.take 12 ++ List.replicate (12 - 12) 0#256 = nmC := rfl
theorem nm_splice {i o : Nat} (hi : i < 12) (ho : o = i * 4) : splice (flat Ec (nmC.take i ++ List.replicate (12 - i) 0#256)) o (Ec (nmC.getD i 0)) = flat Ec ((nmC.take i ++ List.replicate (12 - i) 0#256).set i (nmC.getD i 0)) := by
  subst ho
  exact (flat_set Ec _ (by rw [nm_len hi]; exact hi) _).symm
/-- an element of an array of one's own -/
theorem _root_.Go.HL.RdPK.fcels {α : Type} {E : α → List Value} {k : Nat} [he : Enc E k] {κ : Cx} {H : Hp} {b : Nat} {xs : List α} (h : RdPK κ H b 0 (flat E xs)) {j o : Nat} {x : α} (hx : xs[j]? = some x) (ho : o = j * k) : Cels κ H ⟨b, o, none⟩ (E x) := by
  refine ⟨fun w st q u hu => ?_⟩
  have hq : q < k := by
    rw [← he.len x]
    rcases Nat.lt_or_ge q (E x).length with h' | h'
    · exact h'
    · rw [List.getElem?_eq_none h'] at hu; cases hu
  rw [Addr.add_lit]
  have := (h.out w st).get (j * k + q) u (by rw [flat_get E xs hx hq]; exact hu)
  subst ho
  simpa using this
end Go.HL.Kl
