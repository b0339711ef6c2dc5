/- Part of the proofs over this seat: see the text that holds the theorem. Conditions: each theorem bears its own. -/
import Derived.Test.YthbnkifjplbhgaaM10
namespace Go.Proofs.Ythbnkifjplbhgaa
open Go Go.HL Go.Proofs

/-- bounds of an output that never failed: n bytes came, k calls -/
def Bd (s : OS) (n k : Nat) : Prop := s.err = 0 ∧ 0 ≤ s.cnt ∧ s.cnt + s.kept.length ≤ n ∧ s.said.length ≤ k
theorem Bd.new {n k : Nat} : Bd ⟨[], 0, 0, []⟩ n k := ⟨rfl, by decide, by simp, Nat.zero_le _⟩
theorem Bd.mono {s : OS} {n k n' k' : Nat} (h : Bd s n k) (hn : n ≤ n') (hk : k ≤ k') : Bd s n' k' := ⟨h.1, h.2.1, by have := h.2.2.1; omega, by have := h.2.2.2; omega⟩
theorem tookE0 {s : OS} : tookE 0 0 s = 0 := by simp [tookE]
theorem Bd.hand {s : OS} {n k : Nat} (h : Bd s n k) : Bd (handS 0 0 s) n (k + 1) := by
  obtain ⟨h1, h2, h3, h4⟩ := h
  unfold handS
  split
  · exact ⟨h1, h2, h3, by omega⟩
  · rw [tookE0]
    exact ⟨rfl, by simp; omega, by simp; omega, by simp; omega⟩
theorem Bd.flush {s : OS} {n k : Nat} (h : Bd s n k) : Bd (flushS 0 0 s) n (k + 1) := by
  unfold flushS
  split
  · exact h.mono (Nat.le_refl _) (by omega)
  · exact h.hand
theorem Bd.write {s : OS} {n k : Nat} {lim : Int} {b : List UInt8} (h : Bd s n k) : Bd (writeS lim 0 0 s b) (n + b.length) (k + 1) := by
  have h2 : Bd (keepS s b) (n + b.length) k := ⟨h.1, h.2.1, by have := h.2.2.1; simp [keepS]; omega, h.2.2.2⟩
  unfold writeS
  split
  · exact h.mono (by omega) (by omega)
  · split
    · exact h2.mono (Nat.le_refl _) (by omega)
    · exact h2.hand
theorem StH.sinkRd {bo bs : Nat} {lim fail serr : Int} {s : OS} {S : Hp} (h : StH bo bs lim fail serr s S) : ∃ (sa ga : Option Addr) (sc gc : Nat) (sl gl : List (Sl UInt8)), sl.map Sl.xs = s.said ∧ gl.length = sl.length ∧
    (∀ κ H, HIn S H → RdPK κ H bs 0 [.pointer none, .string ⟨#[]⟩, .int .i64 fail, .int .i64 serr, .int .i64 sl.length, .slice sa sl.length sc, .slice ga gl.length gc]) ∧ RdS Esl (.slice sa sl.length sc) sl S ∧ IsSl (.slice sa sl.length sc) sl.length ∧ ∀ x ∈ sl, RdS Eb x.v x.xs S := by
  obtain ⟨S1, S2, rfl, hO, hS⟩ := h
  obtain ⟨kept, err, cnt, said⟩ := s
  rcases hS with @⟨sa, ga, sc, gc, sl, gl, So, Si, Sg, hm, hO', hin, hg, hgl⟩
  refine ⟨sa, ga, sc, gc, sl, gl, hm, hgl, fun κ H hH => .own (hH _ (List.mem_append_right _ List.mem_cons_self)), ?_, hO'.sl, fun x hx => ?_⟩
  · exact hO'.rds.mono fun p hp => List.mem_append_right _ (List.mem_cons_of_mem _ (List.mem_append_left _ hp))
  · exact (hin x hx).mono fun p hp => List.mem_append_right _ (List.mem_cons_of_mem _ (List.mem_append_right _ (List.mem_append_left _ hp)))
theorem StH.outRd {bo bs : Nat} {lim fail serr : Int} {s : OS} {S : Hp} (h : StH bo bs lim fail serr s S) : ∃ kv, ∀ κ H, HIn S H → RdPK κ H bo 0 [.int .i64 lim, sinkF bs, kv, .int .i64 s.err, .int .i64 s.cnt] := by
  obtain ⟨S1, S2, rfl, hO, hS⟩ := h
  rcases hO with @⟨ka, kc, Sk, hk⟩
  exact ⟨_, fun κ H hH => .own (hH _ (List.mem_append_left _ List.mem_cons_self))⟩
end Go.Proofs.Ythbnkifjplbhgaa
