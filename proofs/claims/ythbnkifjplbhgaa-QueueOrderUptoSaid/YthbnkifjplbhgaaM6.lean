/- Part of the proofs over this seat: see the text that holds the theorem. Conditions: each theorem bears its own. -/
import Derived.Test.YthbnkifjplbhgaaM5
namespace Go.Proofs.Ythbnkifjplbhgaa
open Go Go.HL Go.Proofs

/-- a sink without a disk: how often it fails, with what, what was said to it -/
inductive SinkH (bs : Nat) (fail err : Int) (said : List (List UInt8)) : Hp → Prop
  | mk {sa ga : Option Addr} {sc gc : Nat} {sl gl : List (Sl UInt8)} {So Si Sg : Hp} (hm : sl.map Sl.xs = said) (hO : OwnS Esl 1 35 (.slice sa sl.length sc) sl So) (hin : ∀ s ∈ sl, RdS Eb s.v s.xs Si) (hg : OwnS Esl 1 35 (.slice ga gl.length gc) gl Sg) (hgl : gl.length = sl.length) :
    SinkH bs fail err said ((bs, .cells [.pointer none, .string ⟨#[]⟩, .int .i64 fail, .int .i64 err, .int .i64 sl.length, .slice sa sl.length sc, .slice ga gl.length gc].toArray 86 (0, 0)) :: (So ++ (Si ++ Sg)))
theorem SinkH.mk1 {bs : Nat} {fail err : Int} {sl gl : List (Sl UInt8)} {g : Sl UInt8} {b : List UInt8} {sa ga a : Option Addr} {sc gc c : Nat} {So Sx Si Sg : Hp} (hO : OwnS Esl 1 35 (.slice sa (sl ++ [(⟨a, c, b⟩ : Sl UInt8)]).length sc) (sl ++ [(⟨a, c, b⟩ : Sl UInt8)]) So)
    (hin : ∀ s ∈ sl ++ [(⟨a, c, b⟩ : Sl UInt8)], RdS Eb s.v s.xs (Sx ++ Si)) (hg : OwnS Esl 1 35 (.slice ga (gl ++ [g]).length gc) (gl ++ [g]) Sg) (hgl : gl.length = sl.length) :
    SinkH bs fail err (sl.map Sl.xs ++ [b]) ((bs, .cells [.pointer none, .string ⟨#[]⟩, .int .i64 fail, .int .i64 err, .int .i64 (sl.length + 1), .slice sa (sl ++ [(⟨a, c, b⟩ : Sl UInt8)]).length sc, .slice ga (gl ++ [g]).length gc].toArray 86 (0, 0)) :: (So ++ (Sx ++ (Si ++ Sg)))) := by
  have h := SinkH.mk (bs := bs) (fail := fail) (err := err) (said := sl.map Sl.xs ++ [b]) (by simp) hO hin hg (by simp [hgl])
  have e : ((sl ++ [(⟨a, c, b⟩ : Sl UInt8)]).length : Int) = sl.length + 1 := by simp
  rw [e, List.append_assoc Sx] at h
  exact h
end Go.Proofs.Ythbnkifjplbhgaa
