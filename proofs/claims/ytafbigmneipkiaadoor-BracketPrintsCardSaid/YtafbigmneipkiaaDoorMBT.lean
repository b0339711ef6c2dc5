/- Part of the proofs over this seat: see the text that holds the theorem. Conditions: each theorem bears its own. -/
import Derived.Test.YtafbigmneipkiaaDoorMC7
namespace Go.HL.Kl
open Go Go.HL
/-- the bytes that stand in signs of their own, as they lie in their variable -/
def apV : List Value := [.int .u8 91, .int .u8 93, .int .u8 45, .int .u8 94]
/-- both tables lie there, apart from S -/
def TbB (S : Hp) (w : World) : Prop := (RdP w 1 0 tabV ∧ 1 ∉ keys S) ∧ (RdP w 0 0 apV ∧ 0 ∉ keys S)
theorem tbB_of {S H1 S1 : Hp} {w0 w : World} {n : Nat} {ds : List Deferred} (h : TbB S w0) (st : St (Cx.mk n ds w0 (keys S)).w0 w (Cx.mk n ds w0 (keys S)).M H1) (hs : HSub H1 S1) : TbB S1 w := by
  have key : ∀ (b0 : Nat) (v : Value) (vs : List Value), RdP w0 b0 0 (v :: vs) → b0 ∉ keys S → RdP w b0 0 (v :: vs) ∧ b0 ∉ keys S1 := by
    intro b0 v vs h1 h2
    refine ⟨(RdPK.old (κ := ⟨n, ds, w0, keys S⟩) (H := H1) h1 h2).out w st, fun hm => ?_⟩
    obtain ⟨⟨b, o⟩, hm2, hb⟩ := List.mem_map.1 hm
    have hb : b = b0 := hb
    subst hb
    have st1 := st.sub hs
    rcases st1.own _ _ hm2 with h3 | h3
    · exact h2 h3
    · have := rdp_lt h1
      have h3 : w0.heap.size ≤ b := h3
      omega
  exact ⟨key 1 (.int .u8 (0 : Nat)) tabV.tail h.1.1 h.1.2, key 0 (.int .u8 91) apV.tail h.2.1 h.2.2⟩
theorem TbB.sub {S S' : Hp} {w : World} (h : TbB S w) (hs : ∀ b, b ∈ keys S' → b ∈ keys S) : TbB S' w := ⟨⟨h.1.1, fun hm => h.1.2 (hs _ hm)⟩, ⟨h.2.1, fun hm => h.2.2 (hs _ hm)⟩⟩
end Go.HL.Kl
