/- Part of the proofs over this seat: see the text that holds the theorem. Conditions: each theorem bears its own. -/
import Derived.Test.YtnjjkkncoijmmaaDoorMC11
import Derived.Test.YtnjjkkncoijmmaaDoorMR
namespace Go.HL.Kl
open Go Go.HL
theorem prefix_get {c : Cl} {p : List Nat} {x : Nat} (h : p ++ [x] <+: mems c) : p.length < (mems c).length ∧ (mems c)[p.length]? = some x := by
  obtain ⟨t, ht⟩ := h
  rw [← ht]
  refine ⟨by simp, ?_⟩
  rw [List.append_assoc, List.getElem?_append_right (Nat.le_refl _), Nat.sub_self]; rfl
/-- the object that the table's variable has -/
def TbO (o : Obj) : Prop := ∀ w : World, w.heap[0]? = some o → RdP w 0 0 tabV
theorem tbo {W : World} (h : Tb [] W) : ∃ o, W.heap[0]? = some o ∧ TbO o := by
  refine ⟨W.heap[0]'h.lt, Array.getElem?_eq_getElem h.lt, fun w hw => ⟨fun j u hu => ?_⟩⟩
  have h1 := h.1.get j u hu
  have e : w.heap[0]? = W.heap[0]? := hw.trans (Array.getElem?_eq_getElem h.lt).symm
  unfold World.cell? at h1 ⊢
  rw [e]; exact h1
theorem tb_in {o : Obj} (ho : TbO o) {w0 w : World} {M : List Nat} {H : Hp} (st : St w0 w M H) (hm : (0, o) ∈ H) : Tb [] w := ⟨ho w (st.has _ _ hm), fun h => by cases h⟩
theorem post_back {o : Obj} {w0 w : World} {e : Ending} (h0 : w0.heap[0]? = some o) (h : Post w0 (keys [(0, o)]) (fun v S' => v = .bool true ∧ (0, o) ∈ S') e w) : Post w0 [] (fun v _ => v = .bool true) e w := by
  obtain ⟨v, S', rfl, ⟨hv, hm⟩, st⟩ := h.out
  refine ⟨v, [], rfl, hv, ⟨st.os, st.tape, st.output, st.size, fun b hb _ => ?_, (fun _ _ h => by cases h), (fun _ _ h => by cases h), List.Pairwise.nil⟩⟩
  by_cases e : b = 0
  · subst e; rw [st.has 0 o hm, h0]
  · exact st.old b hb (by simp [keys, e])
end Go.HL.Kl
