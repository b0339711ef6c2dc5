/- Part of the proofs over this seat: see the text that holds the theorem. Conditions: each theorem bears its own. -/
import Derived.Test.YthbnkifjplbhgaaM6
namespace Go.Proofs.Ythbnkifjplbhgaa
open Go Go.HL Go.Proofs

inductive OutH (bo : Nat) (lim : Int) (f : Value) (kept : List UInt8) (err cnt : Int) : Hp → Prop
  | mk {ka : Option Addr} {kc : Nat} {Sk : Hp} (hk : OwnS Eb 1 5 (.slice ka kept.length kc) kept Sk) :
    OutH bo lim f kept err cnt ((bo, .cells [.int .i64 lim, f, .slice ka kept.length kc, .int .i64 err, .int .i64 cnt].toArray 77 (0, 0)) :: Sk)
/-- an output and its sink -/
structure OS where
  kept : List UInt8
  err : Int
  cnt : Int
  said : List (List UInt8)
def sinkF (bs : Nat) : Value := .func (.func 43) [.pointer (some ⟨bs, 0, none⟩)].toArray [].toArray
structure StH (bo bs : Nat) (lim fail serr : Int) (s : OS) (S : Hp) : Prop where
  out : ∃ S1 S2, S = S1 ++ S2 ∧ OutH bo lim (sinkF bs) s.kept s.err s.cnt S1 ∧ SinkH bs fail serr s.said S2
def tookE (fail serr : Int) (s : OS) : Int := if (s.said.length : Int) + 1 = fail then serr else 0
def handS (fail serr : Int) (s : OS) : OS := if s.kept = [] then s else ⟨[], tookE fail serr s, if tookE fail serr s = 0 then s.cnt + s.kept.length else s.cnt, s.said ++ [s.kept]⟩
def handE (fail serr : Int) (s : OS) : Int := if s.kept = [] then 0 else tookE fail serr s
theorem handOn_end {bo bs kc : Nat} {lim fail serr cnt : Int} {kept : List UInt8} {said : List (Sl UInt8)} {ka : Option Addr} {Sk S2 : Hp} (hz : ¬ (kept.length : Int) = 0) (hk : OwnS Eb 1 5 (.slice ka kept.length kc) kept Sk) (hs : SinkH bs fail serr (said.map Sl.xs ++ [kept]) S2) :
    Value.int .i64 (if (said.length : Int) + 1 = fail then serr else 0) = .int .i64 (handE fail serr ⟨kept, 0, cnt, said.map Sl.xs⟩) ∧
    StH bo bs lim fail serr (handS fail serr ⟨kept, 0, cnt, said.map Sl.xs⟩) ((bo, .cells [.int .i64 lim, sinkF bs, .slice ka 0 kc, .int .i64 (if (said.length : Int) + 1 = fail then serr else 0), .int .i64 (if (if (said.length : Int) + 1 = fail then serr else 0) = 0 then cnt + kept.length else cnt)].toArray 77 (0, 0)) :: (Sk ++ S2)) := by
  have hk0 : kept ≠ [] := fun e => hz (by subst e; rfl)
  have e : (if (said.length : Int) + 1 = fail then serr else 0) = tookE fail serr ⟨kept, 0, cnt, said.map Sl.xs⟩ := by simp [tookE]
  rw [e, handE, if_neg hk0, handS, if_neg hk0]
  have h0 := hk.pre 0 (Nat.zero_le _)
  rw [List.take_zero] at h0
  exact ⟨rfl, _ :: Sk, S2, rfl, OutH.mk (kept := []) h0, hs⟩
end Go.Proofs.Ythbnkifjplbhgaa
