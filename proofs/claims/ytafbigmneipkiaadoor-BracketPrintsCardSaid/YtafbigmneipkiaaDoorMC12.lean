/- Part of the proofs over this seat: see the text that holds the theorem. Conditions: each theorem bears its own. -/
import Derived.Test.YtafbigmneipkiaaDoorMC11
import Derived.Test.YtafbigmneipkiaaDoorHlB
namespace Go.HL.Kl
open Go Go.HL Go.RowKit Go.ChangeShapes Go.WideShapes Go.ChangeAt
/-! classes that came in -/
def Ew1 (w : BitVec 64) : List Value := [Ew w]
instance : Enc Ew1 1 := ⟨fun _ => rfl, fun _ v hv => by simp [Ew1, Ew] at hv; subst hv; rfl⟩
theorem open_u64 {P : Program} {t : TypeId} (ht : P.underlying t = some (.int .u64)) : Opens P t Ew1 (fun _ _ => True) := by
  refine ⟨fun enc w fuel cs x h _ => ?_⟩
  obtain ⟨n, rfl, _, hw⟩ := DataW.trod_int ht h
  have hb : 0 ≤ n ∧ n ≤ 18446744073709551615 := by
    simp only [Lit.wf] at hw
    simpa [IntKind.min, IntKind.max, IntKind.signed, IntKind.bits] using hw
  refine ⟨BitVec.ofNat 64 n.toNat, ?_, trivial⟩
  have e : (BitVec.ofNat 64 n.toNat).toNat = n.toNat := by
    rw [BitVec.toNat_ofNat]
    exact Nat.mod_eq_of_lt (by rw [show (2 : Nat) ^ 64 = 18446744073709551616 from by decide]; omega)
  simp only [Ew1, Ew, e, List.cons.injEq, Value.int.injEq, true_and, and_true]
  omega
def mk4 (a b c d : BitVec 64) : Cl := setw (setw (setw (setw 0 0 a) 1 b) 2 c) 3 d
theorem mk4_wd (a b c d : BitVec 64) : Ec (mk4 a b c d) = [Ew a, Ew b, Ew c, Ew d] := by
  simp [Ec, mk4, wd_setw]
theorem open_cl {P : Program} {t e : TypeId} (ht : P.underlying t = some (.array 4 e)) (he : P.underlying e = some (.int .u64)) (hk : P.cellsOf e = 1) (hc : P.cellsOf t = 4) : Opens P t Ec (fun _ _ => True) := by
  refine ⟨fun enc w fuel cs x h hw => ?_⟩
  obtain ⟨xs, rfl, hl, _⟩ := (open_array ht hk (by rw [hc]) (open_u64 he)).out enc w fuel cs x h hw
  match xs, hl with
  | [a, b, c, d], _ => exact ⟨mk4 a b c d, by rw [mk4_wd]; rfl, trivial⟩
theorem arg_cl {P : Program} {t e : TypeId} (ht : P.underlying t = some (.array 4 e)) (he : P.underlying e = some (.int .u64)) (hk : P.cellsOf e = 1) (hc : P.cellsOf t = 4) {H : Type} {enc : TypeId × Value → H} {w : World} {v : Value} {d : DataW H} {p : List MemPlace}
    (hv : ∃ b, Value.okWide P w .any b t v) (h : DataW.Trod enc P w 0 (fun _ => true) true t v d p) (hw : ∀ n ∈ d.weights P t, n ≤ reachBytes) : ∃ c : Cl, v = .agg (Ec c).toArray := by
  obtain ⟨c, h1, _⟩ := arg_array ht (open_cl ht he hk hc) hv h hw
  exact ⟨c, h1⟩

/-! the algebra of classes -/
theorem not_or (a b : Cl) : ~~~(a ||| b) = ~~~a &&& ~~~b := by
  apply BitVec.eq_of_getLsbD_eq; intro j hj; simp [hj]
theorem not_not (a : Cl) : ~~~(~~~a) = a := by
  apply BitVec.eq_of_getLsbD_eq; intro j hj; simp [hj]
theorem and_or (a b c : Cl) : a &&& (b ||| c) = (a &&& b) ||| (a &&& c) := by
  apply BitVec.eq_of_getLsbD_eq; intro j hj; simp [Bool.and_or_distrib_left]
theorem or_comm (a b : Cl) : a ||| b = b ||| a := BitVec.or_comm a b
theorem or_zero (a : Cl) : a ||| 0#256 = a := by simp
theorem rng_full : rng 0 255 = BitVec.allOnes 256 := by
  apply BitVec.eq_of_getLsbD_eq; intro j hj; rw [rng_get hj, BitVec.getLsbD_allOnes]; simp [hj]; omega
theorem and_rng (a : Cl) : a &&& rng 0 255 = a := by
  rw [rng_full]; apply BitVec.eq_of_getLsbD_eq; intro j hj; rw [BitVec.getLsbD_and, BitVec.getLsbD_allOnes]; simp [hj]
theorem and_not (a : Cl) : a &&& ~~~a = 0#256 := by
  apply BitVec.eq_of_getLsbD_eq; intro j hj; simp [hj]
theorem or_not (a : Cl) : a ||| ~~~a = rng 0 255 := by
  rw [rng_full]; apply BitVec.eq_of_getLsbD_eq; intro j hj; simp [hj]
theorem sizeTo_or_and (a b : Cl) : ∀ i, sizeTo (a ||| b) i + sizeTo (a &&& b) i = sizeTo a i + sizeTo b i
  | 0 => rfl
  | i + 1 => by
    have := sizeTo_or_and a b i
    simp only [sizeTo_step, BitVec.getLsbD_or, BitVec.getLsbD_and]
    cases a.getLsbD i <;> cases b.getLsbD i <;> simp <;> omega
theorem size_or_and (a b : Cl) : (size (a ||| b) : Int) + size (a &&& b) = size a + size b := by
  have := sizeTo_or_and a b 256
  simp only [size]; omega
theorem sizeTo_not (a : Cl) : ∀ i, i ≤ 256 → sizeTo a i + sizeTo (~~~a) i = i
  | 0, _ => rfl
  | i + 1, h => by
    have := sizeTo_not a i (by omega)
    have hi : i < 256 := by omega
    simp only [sizeTo_step, BitVec.getLsbD_not, hi, decide_true, Bool.true_and]
    cases a.getLsbD i <;> simp <;> omega
theorem size_not (a : Cl) : (size a : Int) + size (~~~a) = 256 := by
  have := sizeTo_not a 256 (by omega)
  simp only [size]; omega
end Go.HL.Kl
