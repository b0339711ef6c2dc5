/- Part of the proofs over this seat: see the text that holds the theorem. Conditions: each theorem bears its own. -/
import Derived.Test.YthbnkifjplbhgaaM8
namespace Go.Proofs.Ythbnkifjplbhgaa
open Go Go.HL Go.Proofs

def newH (bo bs : Nat) (lim fail serr : Int) : Hp := [(bo, .cells [.int .i64 lim, sinkF bs, .slice none 0 0, .int .i64 0, .int .i64 0].toArray 77 (0, 0)), (bs, .cells [.pointer none, .string ⟨#[]⟩, .int .i64 fail, .int .i64 serr, .int .i64 0, .slice none 0 0, .slice none 0 0].toArray 86 (0, 0))]
theorem stH_new {bo bs : Nat} {lim fail serr : Int} : StH bo bs lim fail serr ⟨[], 0, 0, []⟩ (newH bo bs lim fail serr) :=
  ⟨[_], [_], rfl, OutH.mk (kept := []) .nil, SinkH.mk (bs := bs) (fail := fail) (err := serr) (said := []) (sl := []) (gl := []) (sa := none) (ga := none) (sc := 0) (gc := 0) (So := []) (Si := []) (Sg := []) rfl .nil (by simp) .nil rfl⟩
theorem rows1 {x : Sl UInt8} {A B : Hp} (h : RdS Eb x.v x.xs B) : ∀ s ∈ [x], RdS Eb s.v s.xs (A ++ B) := by
  intro s hs
  obtain rfl : s = x := by simpa using hs
  exact h.mono HIn.appR
theorem rows2 {x y : Sl UInt8} {A B C : Hp} (hx : RdS Eb x.v x.xs C) (hy : RdS Eb y.v y.xs B) : ∀ s ∈ [x, y], RdS Eb s.v s.xs (A ++ (B ++ C)) := by
  intro s hs
  rcases List.mem_cons.1 hs with rfl | hs
  · exact hx.mono fun _ h => List.mem_append_right _ (List.mem_append_right _ h)
  · obtain rfl : s = y := by simpa using hs
    exact hy.mono fun _ h => List.mem_append_right _ (List.mem_append_left _ h)
theorem one_of_map {sl : List (Sl UInt8)} {b : List UInt8} (h : sl.map Sl.xs = [b]) : ∃ x, sl = [x] ∧ x.xs = b := by
  match sl, h with
  | [x], h => exact ⟨x, rfl, by simpa using h⟩
end Go.Proofs.Ythbnkifjplbhgaa
