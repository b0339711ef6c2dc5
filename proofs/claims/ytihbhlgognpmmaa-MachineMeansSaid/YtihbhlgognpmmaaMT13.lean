/- What Compile answers. Conditions: none. -/
import Derived.Test.YtihbhlgognpmmaaMT12
namespace Go.HL.Kl.Mc
open Go Go.HL Go.HL.Kl
theorem F.size_weight : ∀ f : F, f.size ≤ f.weight
  | .nil => Nat.le_refl _
  | .nd x ks r => by
    have h1 := F.size_weight ks
    have h2 := F.size_weight r
    have h3 : ks.weight ≤ times x * ks.weight := Nat.le_mul_of_pos_left _ (times_pos x)
    simp only [F.size, F.weight]; omega
theorem mach_one (x : Nd) (ks : F) : mach (.nd x ks .nil) = codeOne x ks 0 ++ [⟨6, 0, 0, 0⟩] := by rw [mach, code_one]
theorem Shp.lenT {re : List Nd} {x : Nd} {ks : F} (h : Shp re x ks) : Mc.lenT x ks ≤ 65533 := by
  have h1 := (code_weight _ h.wf).1
  rw [lenM_cat] at h1
  have := h.weight
  simp only [F.num] at h1
  omega
theorem Shp.len {re : List Nd} {x : Nd} {ks : F} (h : Shp re x ks) : re.length ≤ 16384 := by
  have h1 := F.size_weight (.nd x ks .nil)
  have := h.weight
  rw [h.flat]
  simp only [F.size] at h1
  simp only [List.length_cons, F.flat_size]
  omega
theorem Shp.part {re : List Nd} {x : Nd} {ks : F} (h : Shp re x ks) : Part re (.nd x ks .nil) 0 re.length := by
  refine ⟨h.wf, by rw [List.drop_length, List.drop_zero, List.append_nil]; simp [F.flat, h.flat], ?_, Nat.le_refl _⟩
  rw [h.flat]; simp [F.size, F.flat_size]
/-- an answer of Compile: none for what is not well shaped or has references, else the machine -/
inductive CompP (re : List Nd) (v : Value) (S' : Hp) : Prop
  | shape (hs : shapedB re = false) (hv : v = .tuple #[.slice none 0 0, .int .i64 49])
  | ref (hs : shapedB re = true) (hr : refsB re = true) (hv : v = .tuple #[.slice none 0 0, .int .i64 44])
  | ok {x : Nd} {ks : F} {a : Option Addr} (hs : shapedB re = true) (hr : refsB re = false) (h : Shp re x ks) (hv : v = .tuple #[.slice a (mach (.nd x ks .nil)).length (mach (.nd x ks .nil)).length, .int .i64 0]) (hm : RdS Ein (.slice a (mach (.nd x ks .nil)).length (mach (.nd x ks .nil)).length) (mach (.nd x ks .nil)) S')
theorem RdS.cap {α : Type} {E : α → List Value} {k T : Nat} [Enc E k] {a : Option Addr} {n c : Nat} {xs : List α} {S : Hp} (h : OwnS E k T (.slice a n c) xs S) : RdS E (.slice a n n) xs S := by
  refine ⟨fun w hw => ?_⟩
  have h1 := h.rd hw
  have h2 := h1.sl
  refine ⟨?_, h1.get⟩
  obtain ⟨⟨a', c', e, h3, h4, h5⟩, h6⟩ := h2
  simp only [Value.slice.injEq] at e
  obtain ⟨rfl, rfl, rfl⟩ := e
  refine ⟨⟨a, xs.length, rfl, Nat.le_refl _, fun ha => by have := h4 ha; omega, h5⟩, h6⟩
end Go.HL.Kl.Mc
