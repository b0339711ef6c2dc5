/- Part of the proofs over this seat: see the text that holds the theorem. Conditions: each theorem bears its own. -/
import Derived.Test.YtafbigmneipkiaaDoorMC6
namespace Go.HL.Kl
open Go Go.HL
/-- the table of TrailingZeros64, as it lies in its variable -/
def tabV : List Value := Lib.deBruijn64tab.map fun n : Nat => Value.int .u8 n
/-- the table lies there, apart from S -/
def Tb (S : Hp) (w : World) : Prop := RdP w 0 0 tabV ∧ 0 ∉ keys S
theorem rdp_lt {w : World} {b : Nat} {v : Value} {vs : List Value} (h : RdP w b 0 (v :: vs)) : b < w.heap.size := by
  have h1 := h.get 0 v rfl
  rcases Nat.lt_or_ge b w.heap.size with h' | h'
  · exact h'
  · simp [World.cell?, Array.getElem?_eq_none h'] at h1
theorem Tb.lt {S : Hp} {w : World} (h : Tb S w) : 0 < w.heap.size := rdp_lt (v := .int .u8 (0 : Nat)) (vs := tabV.tail) h.1
theorem tb_of {S H1 S1 : Hp} {w0 w : World} {n : Nat} {ds : List Deferred} (h : Tb S w0) (st : St (Cx.mk n ds w0 (keys S)).w0 w (Cx.mk n ds w0 (keys S)).M H1) (hs : HSub H1 S1) : Tb S1 w := by
  refine ⟨(RdPK.old (κ := ⟨n, ds, w0, keys S⟩) (H := H1) h.1 h.2).out w st, fun hm => ?_⟩
  obtain ⟨⟨b, o⟩, hm, hb⟩ := List.mem_map.1 hm
  have hb : b = 0 := hb
  subst hb
  have st1 := st.sub hs
  rcases st1.own _ _ hm with h1 | h1
  · exact h.2 h1
  · have := h.lt
    have h1 : w0.heap.size ≤ 0 := h1
    omega
theorem Tb.sub {S S' : Hp} {w : World} (h : Tb S w) (hs : ∀ b, b ∈ keys S' → b ∈ keys S) : Tb S' w := ⟨h.1, fun hm => h.2 (hs _ hm)⟩
theorem v_neg (w : BitVec 64) : Value.int .u64 (IntKind.u64.wrap (0 - (w.toNat : Int))) = Ew (-w) := by
  simp only [Ew, Value.int.injEq, true_and, BitVec.toNat_neg]
  have := w.isLt
  rw [wrap_u64]; omega
theorem v_mul (a b : BitVec 64) : Value.int .u64 (IntKind.u64.wrap ((a.toNat : Int) * (b.toNat : Int))) = Ew (a * b) := by
  have e : IntKind.u64.wrap ((a.toNat : Int) * (b.toNat : Int)) = ((a * b).toNat : Int) := by
    rw [wrap_u64, BitVec.toNat_mul, Int.natCast_emod, Int.natCast_mul]; rfl
  rw [e]; rfl
theorem v_mulc (a : BitVec 64) : Value.int .u64 (IntKind.u64.wrap ((a.toNat : Int) * 285870213051353865)) = Ew (a * 285870213051353865#64) := by
  have h := v_mul a (285870213051353865#64)
  have e : ((285870213051353865#64).toNat : Int) = 285870213051353865 := by decide
  rw [e] at h
  exact h
theorem ne_zero {w : BitVec 64} (h : (w.toNat : Int) ≠ 0) : w ≠ 0#64 := fun e => h (by rw [e]; rfl)
theorem eq_zero {w : BitVec 64} (h : ¬ (w.toNat : Int) ≠ 0) : w = 0#64 := BitVec.eq_of_toNat_eq (by simp at h; simpa using h)
theorem ctz_zero {w : BitVec 64} (h : (w.toNat : Int) = 0) : Lib.ctz 64 w.toNat = 64 := by
  have : w.toNat = 0 := by omega
  simp [Lib.ctz, this]
theorem ctz_le (w : BitVec 64) : Lib.ctz 64 w.toNat ≤ 64 := by
  by_cases h : w.toNat = 0
  · simp [Lib.ctz, h]
  · have := (Lib.lowest_bit 64 w.toNat h w.isLt).2; omega
theorem tab_get {k q : Nat} (h3 : q < 64) (h4 : Lib.deBruijn64tab.getD q 0 = k) : tabV[q]? = some (.int .u8 (k : Int)) := by
  have hl : Lib.deBruijn64tab.length = 64 := rfl
  unfold tabV
  rw [List.getElem?_map]
  rw [List.getD_eq_getElem?_getD] at h4
  rw [List.getElem?_eq_getElem (by rw [hl]; exact h3)] at h4 ⊢
  simp at h4
  simp [h4]
theorem tab_at (w : BitVec 64) (h : ¬ (w.toNat : Int) = 0) : (((w &&& -w) * 285870213051353865#64) >>> 58).toNat < 64 ∧ tabV[(((w &&& -w) * 285870213051353865#64) >>> 58).toNat]? = some (.int .u8 ((Lib.ctz 64 w.toNat : Nat) : Int)) := by
  have h0 : w.toNat ≠ 0 := by omega
  obtain ⟨h1, h2⟩ := Lib.lowest_bit 64 w.toNat h0 w.isLt
  obtain ⟨h3, h4⟩ := Lib.deBruijn64_at _ h2
  have e0 : (285870213051353865#64).toNat = 285870213051353865 := by decide
  have e1 : (-w).toNat = 2 ^ 64 - w.toNat := by
    rw [BitVec.toNat_neg]
    have := w.isLt
    exact Nat.mod_eq_of_lt (by omega)
  have e : (((w &&& -w) * 285870213051353865#64) >>> 58).toNat = 2 ^ Lib.ctz 64 w.toNat * 285870213051353865 % 18446744073709551616 / 288230376151711744 := by
    rw [BitVec.toNat_ushiftRight, Nat.shiftRight_eq_div_pow, BitVec.toNat_mul, BitVec.toNat_and, e1, h1, e0]
  rw [e]
  exact ⟨h3, tab_get h3 h4⟩
theorem shl6 {i : Nat} (h : i < 4) : IntKind.i64.wrap ((i : Int) * 2 ^ (min (6 : Int).toNat IntKind.i64.bits)) = ((64 * i : Nat) : Int) := by
  have : ∀ i : Fin 4, IntKind.i64.wrap ((i.val : Int) * 2 ^ (min (6 : Int).toNat IntKind.i64.bits)) = ((64 * i.val : Nat) : Int) := by decide +kernel
  exact this ⟨i, h⟩
theorem words_end {c : Cl} {i : Nat} {w : BitVec 64} {p : List Nat} (hi : i < 4) (hm : mems c = p ++ (wmem i w ++ (mems c).drop (memsTo c (64 * i + 64)).length)) (hz : w = 0#64) : p = memsTo c (64 * (i + 1)) := by
  subst hz
  rw [wmem_zero, List.nil_append] at hm
  have hp : memsTo c (64 * i + 64) <+: mems c := memsTo_prefix c (by omega)
  have hl := hp.length_le
  have h1 := congrArg List.length hm
  rw [List.length_append, List.length_drop] at h1
  have h2 : p.length = (memsTo c (64 * i + 64)).length := by omega
  have h3 : p <+: mems c := ⟨_, hm.symm⟩
  rw [show 64 * (i + 1) = 64 * i + 64 by omega]
  rw [List.prefix_iff_eq_take] at h3 hp
  rw [h3, hp, h2, ← hp]
theorem mems_lt {c : Cl} {p : List Nat} {x : Nat} (h : p ++ [x] <+: mems c) : x < 256 := by
  have : x ∈ mems c := h.subset (by simp)
  exact (memsTo_lt this).1
def least (c : Cl) : Nat := (mems c).headD 256
theorem least_head {c : Cl} {x : Nat} (h : [x] <+: mems c) : (x : Int) = ((least c : Nat) : Int) := by
  obtain ⟨r, hr⟩ := h
  simp [least, ← hr]
theorem least_nil {c : Cl} (h : mems c = []) : (256 : Int) = ((least c : Nat) : Int) := by simp [least, h]
end Go.HL.Kl
