/- Part of the proofs over this seat: see the text that holds the theorem. Conditions: each theorem bears its own. -/
import Derived.Test.YthbnkifjplbhgaaM9
namespace Go.Proofs.Ythbnkifjplbhgaa
open Go Go.HL Go.Proofs

structure OpV where
  f : Bool
  p : Sl (Sl UInt8)
def Eop (o : OpV) : List Value := [.bool o.f, o.p.v]
instance : Enc Eop 2 := ⟨fun _ => rfl, fun _ v h => by
  simp only [Eop, List.mem_cons, List.not_mem_nil, or_false] at h
  rcases h with rfl | rfl <;> rfl⟩
def op0 (sc : List OpV) (j : Nat) : OpV := sc.getD j ⟨false, ⟨none, 0, []⟩⟩
theorem op0_get {sc : List OpV} {j : Nat} (h : j < sc.length) : sc[j]? = some (op0 sc j) := by simp [op0, List.getD, List.getElem?_eq_getElem h]
theorem op0_mem {sc : List OpV} {j : Nat} (h : j < sc.length) : op0 sc j ∈ sc := List.mem_of_getElem? (op0_get h)
def cost (o : OpV) : Nat := o.p.xs.length + (o.p.xs.map Sl.xs).flatten.length
theorem cost_eq {o : OpV} : cost o = o.p.xs.length + (catK [] o.p.xs o.p.xs.length).length := by rw [catK_all]; rfl
def tot (sc : List OpV) (j : Nat) : Nat := ((sc.take j).map cost).sum
theorem tot_zero {sc : List OpV} : tot sc 0 = 0 := by simp [tot]
theorem tot_succ {sc : List OpV} {j : Nat} (h : j < sc.length) : tot sc (j + 1) = tot sc j + cost (op0 sc j) := by
  rw [tot, tot, List.take_add_one, op0_get h, List.map_append, List.sum_append]
  simp
theorem tot_mono {sc : List OpV} {j : Nat} : tot sc j ≤ tot sc sc.length := by
  rw [tot, tot, List.take_length]
  conv => rhs; rw [← List.take_append_drop j sc, List.map_append, List.sum_append]
  omega
theorem long_end {sc : List OpV} {j : Nat} {N : Int} (hj : j = sc.length) (hN : N < 2147483648 → N = sc.length + tot sc j) (h : ¬ (2147483647 : Int) < N) : sc.length + tot sc sc.length ≤ 2147483647 := by
  subst hj
  have := hN (by omega)
  omega
theorem rows_step {xs ys : List (Sl UInt8)} {j : Nat} (h1 : j < xs.length) (h2 : j < ys.length) (h : (xs.take j).map Sl.xs = (ys.take j).map Sl.xs) (e : (row0 xs j).xs = (row0 ys j).xs) : (xs.take (j + 1)).map Sl.xs = (ys.take (j + 1)).map Sl.xs := by
  rw [List.take_add_one, List.take_add_one, List.map_append, List.map_append, row0_get h1, row0_get h2, h]
  simp [e]
theorem rows_all {xs : List (Sl UInt8)} {j : Nat} (h : xs.length ≤ j) : (xs.take j).map Sl.xs = xs.map Sl.xs := by rw [List.take_of_length_le h]
theorem rows_ne {xs ys : List (Sl UInt8)} {j : Nat} (h1 : j < xs.length) (h2 : j < ys.length) (h : xs.map Sl.xs = ys.map Sl.xs) : (row0 xs j).xs = (row0 ys j).xs := by
  have := congrArg (fun l => l[j]?) h
  simpa [List.getElem?_map, row0_get h1, row0_get h2] using this
theorem HL.Fn.weak {P : Program} {f : FuncId} {args : List Value} {pre : World → Prop} {S : Hp} {post post' : Value → Hp → Prop} (h : HL.Fn P f args pre S post) (hp : ∀ v S', post v S' → post' v S') : HL.Fn P f args pre S post' :=
  ⟨h.enters, fun w hw hS => (h.calls w hw hS).mono fun _ _ hq => by
    obtain ⟨v, S', e, hq, st⟩ := hq.out
    exact ⟨v, S', e, hp v S' hq, st⟩⟩
end Go.Proofs.Ythbnkifjplbhgaa
