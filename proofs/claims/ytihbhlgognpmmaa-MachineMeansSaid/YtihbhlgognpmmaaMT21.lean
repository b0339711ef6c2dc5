/- Runs and derivations lead to the same places. Conditions: none. -/
import Derived.Test.YtihbhlgognpmmaaMT19
import Derived.Test.YtihbhlgognpmmaaMT20
namespace Go.HL.Kl.Mc
open Go Go.HL Go.HL.Kl
theorem ends_isS {x : Nd} {ks : F} {w : List UInt8} {p : Nat} {out : List Bool} (hw : (F.nd x ks .nil).wf) (hM : MOk (mach (.nd x ks .nil))) (hp : p ≤ w.length) (h : EndsP (mach (.nd x ks .nil)) w (p : Int) out) : IsS out w.length (der1 w x ks p) :=
  ⟨h.1, fun q _ => (h.2 q).trans ⟨fun ⟨_, g, hg, _, hh⟩ => by
    obtain rfl : p = g := by omega
    exact (mach_hit hw).1 hh, fun hd => ⟨hM, p, rfl, hp, (mach_hit hw).2 hd⟩⟩⟩
theorem no_refs {re : List Nd} (hs : shapedB re = true) (hr : refsB re = false) : ∀ x ∈ re, ¬ x.op = 8 := fun x hx h8 => by rw [refs_yes hs hx h8] at hr; cases hr
theorem Shp.mok {re : List Nd} {x : Nd} {ks : F} (h : Shp re x ks) : MOk (mach (.nd x ks .nil)) := mach_ok h.wf h.weight
end Go.HL.Kl.Mc
