/- Steps of a drawn region, their side conditions found. Conditions: none. -/
import Derived.Test.YtmpeokbongnniaaHlB
import Derived.Test.YtmpeokbongnniaaProg
import Derived.KernelRfl
import Derived.Lib.TrailingZeros
namespace Go.HL
open Go
/-- e_take, its side conditions found -/
theorem e_tk {P : Program} {κ : Cx} {ops : Array Oper} {Q : Pst} {late : Nat → Bool} {L : Loc} {H : Hp} {op : Op} {d : Nat} {ty : TypeId} {pos : String} {af : Array Edge} {v : Value} (i : Nat) {fuel : Nat} {listed : Array Bool} {Hs : Hp} {g : Option (Nat × Bool)} (hi : ops[i]? = some ⟨some d, op, ty, pos, af, g⟩) (hS : HSub H Hs) (hs : Step P κ op ty L Hs v) (h : E P κ ops Q Hs late fuel (listed.setIfInBounds i true) ((d, v) :: L) H) (hsl : Region.noSelect ops = true := by kernel_rfl) (hfr : Region.free .any ops listed i = true := by kernel_rfl) (hr : (Region.ready .any ops listed).contains i = true := by kernel_rfl)
    (hlt : lateB ops late i = true := by kernel_rfl) (hg : ∀ a : Act, Fr a κ.n κ.ds L → Region.wanted ⟨some d, op, ty, pos, af, g⟩ (yielded ops a.tmps) = true := by exact fun _ _ => rfl) (hn : Nat.blt d κ.n = true := by rfl) : E P κ ops Q Hs late (fuel + 1) listed L H := e_take i hi hsl hfr hr hlt hg hn hS hs h
theorem e_tg {P : Program} {κ : Cx} {ops : Array Oper} {Q : Pst} {late : Nat → Bool} {L : Loc} {H : Hp} {op : Op} {d : Nat} {ty : TypeId} {pos : String} {af : Array Edge} {v : Value} (i : Nat) {fuel : Nat} {listed : Array Bool} {Hs : Hp} {g : Option (Nat × Bool)} (hi : ops[i]? = some ⟨some d, op, ty, pos, af, g⟩) (hS : HSub H Hs) (hs : Step P κ op ty L Hs v) (h : E P κ ops Q Hs late fuel (listed.setIfInBounds i true) ((d, v) :: L) H) (hsl : Region.noSelect ops = true := by kernel_rfl) (hfr : Region.free .any ops listed i = true := by kernel_rfl) (hr : (Region.ready .any ops listed).contains i = true := by kernel_rfl)
    (hlt : lateB ops late i = true := by kernel_rfl) (hg : ∀ a : Act, Fr a κ.n κ.ds L → Region.wanted ⟨some d, op, ty, pos, af, g⟩ (yielded ops a.tmps) = true := by exact fun _ fr => by rw [wanted_of fr rfl rfl rfl]; rfl) (hn : Nat.blt d κ.n = true := by rfl) : E P κ ops Q Hs late (fuel + 1) listed L H := e_take i hi hsl hfr hr hlt hg hn hS hs h
theorem e_pr {P : Program} {κ : Cx} {ops : Array Oper} {Q : Pst} {late : Nat → Bool} {L : Loc} {H : Hp} {op : Op} {d : Nat} {ty : TypeId} {pos : String} {af : Array Edge} {v : Value} (i : Nat) {fuel : Nat} {listed : Array Bool} {Hs : Hp} (hi : ops[i]? = some ⟨some d, op, ty, pos, af, none⟩) (hs : Step P κ op ty L [] v) (h : E P κ ops Q Hs late fuel (listed.setIfInBounds i true) ((d, v) :: L) H) (hsl : Region.noSelect ops = true := by kernel_rfl) (hfr : Region.free .any ops listed i = true := by kernel_rfl) (hr : (Region.ready .any ops listed).contains i = true := by kernel_rfl) (hn : Nat.blt d κ.n = true := by rfl) : E P κ ops Q Hs late (fuel + 1) listed L H := e_pure i hi hsl hfr hr hn hs h
theorem e_sk {P : Program} {κ : Cx} {ops : Array Oper} {Q : Pst} {late : Nat → Bool} {L : Loc} {H : Hp} {op : Op} {d : Nat} {ty : TypeId} {pos : String} {af : Array Edge} (i : Nat) {fuel : Nat} {listed : Array Bool} {Hs : Hp} {j t : Nat} {b c : Bool} (hi : ops[i]? = some ⟨some d, op, ty, pos, af, some (j, b)⟩) (h : E P κ ops Q Hs late fuel (listed.setIfInBounds i true) ((d, undef) :: L) H) (hsl : Region.noSelect ops = true := by kernel_rfl) (hfr : Region.free .any ops listed i = true := by kernel_rfl) (hr : (Region.ready .any ops listed).contains i = true := by kernel_rfl) (hj : (ops[j]?).bind (·.dst) = some t := by rfl) (ht : look L t = some (.bool c) := by rfl) (hne : (c == b) = false := by rfl) (hn : Nat.blt d κ.n = true := by rfl) : E P κ ops Q Hs late (fuel + 1) listed L H := e_skip i hi hsl hfr hr hj ht hne hn h
end Go.HL

/- Part of the proofs over this seat: see the text that holds the theorem. Conditions: each theorem bears its own. -/
namespace Go.Proofs.Ytmpeokbongnniaa
open Go.HL Go.Proofs

instance : Mixed Try.prog := ⟨by kernel_rfl⟩
instance g3 : TG Try.prog 3 true := ⟨by kernel_rfl⟩
instance u3 : TU Try.prog 3 ((Go.TypeDesc.int Go.IntKind.i64)) := ⟨Try.underlying3⟩
instance g4 : TG Try.prog 4 true := ⟨by kernel_rfl⟩
instance g5 : TG Try.prog 5 true := ⟨by kernel_rfl⟩
instance u5 : TU Try.prog 5 ((Go.TypeDesc.int Go.IntKind.u8)) := ⟨Try.underlying5⟩
instance g22 : TG Try.prog 22 true := ⟨by kernel_rfl⟩
instance u22 : TU Try.prog 22 ((Go.TypeDesc.slice 85)) := ⟨Try.underlying22⟩
instance g23 : TG Try.prog 23 true := ⟨by kernel_rfl⟩
instance u23 : TU Try.prog 23 ((Go.TypeDesc.slice 5)) := ⟨Try.underlying23⟩
instance g24 : TG Try.prog 24 true := ⟨by kernel_rfl⟩
instance u24 : TU Try.prog 24 ((Go.TypeDesc.pointer 76)) := ⟨Try.underlying24⟩
instance g29 : TG Try.prog 29 true := ⟨by kernel_rfl⟩
instance u29 : TU Try.prog 29 ((Go.TypeDesc.slice 48)) := ⟨Try.underlying29⟩
instance g36 : TG Try.prog 36 false := ⟨by kernel_rfl⟩
instance b36 : TB Try.prog 36 [(0, 1), (1, 1)] := ⟨by kernel_rfl⟩
instance s36 : TS Try.prog 36 [(3, 0), (23, 1)] := ts_of (by kernel_rfl)
instance g37 : TG Try.prog 37 true := ⟨by kernel_rfl⟩
instance u37 : TU Try.prog 37 ((Go.TypeDesc.slice 36)) := ⟨Try.underlying37⟩
instance g41 : TG Try.prog 41 false := ⟨by kernel_rfl⟩
instance s41 : TS Try.prog 41 [(37, 0), (23, 1), (3, 2), (4, 3), (3, 4)] := ts_of (by kernel_rfl)
instance u46 : TU Try.prog 46 ((Go.TypeDesc.func #[72] #[] Bool.false)) := ⟨Try.underlying46⟩
instance g48 : TG Try.prog 48 true := ⟨by kernel_rfl⟩
instance u48 : TU Try.prog 48 ((Go.TypeDesc.slice 51)) := ⟨Try.underlying48⟩
instance g51 : TG Try.prog 51 false := ⟨by kernel_rfl⟩
instance e51 : EG Try.prog 51 := ⟨by kernel_rfl⟩
instance b51 : TB Try.prog 51 [(0, 1), (1, 1)] := ⟨by kernel_rfl⟩
instance tq51 : TQ Try.prog 51 [(3, 0), (3, 1)] := ⟨by kernel_rfl⟩
instance s51 : TS Try.prog 51 [(3, 0), (3, 1)] := ts_of (by kernel_rfl)
instance b60 : TB Try.prog 60 [(0, 1), (1, 1)] := ⟨by kernel_rfl⟩
instance s60 : TS Try.prog 60 [(4, 0), (48, 1)] := ts_of (by kernel_rfl)
instance g61 : TG Try.prog 61 true := ⟨by kernel_rfl⟩
instance u61 : TU Try.prog 61 ((Go.TypeDesc.slice 60)) := ⟨Try.underlying61⟩
instance g63 : TG Try.prog 63 true := ⟨by kernel_rfl⟩
instance g64 : TG Try.prog 64 true := ⟨by kernel_rfl⟩
instance u64 : TU Try.prog 64 ((Go.TypeDesc.slice 23)) := ⟨Try.underlying64⟩
instance g65 : TG Try.prog 65 true := ⟨by kernel_rfl⟩
instance u65 : TU Try.prog 65 ((Go.TypeDesc.slice 3)) := ⟨Try.underlying65⟩
instance b67 : TB Try.prog 67 [(0, 1), (1, 1), (2, 1), (3, 1)] := ⟨by kernel_rfl⟩
instance s67 : TS Try.prog 67 [(61, 0), (64, 1), (65, 2), (29, 3)] := ts_of (by kernel_rfl)
instance g74 : TG Try.prog 74 true := ⟨by kernel_rfl⟩
instance b76 : TB Try.prog 76 [(0, 1), (1, 1), (2, 1)] := ⟨by kernel_rfl⟩
instance s76 : TS Try.prog 76 [(22, 0), (74, 1), (3, 2)] := ts_of (by kernel_rfl)
instance g80 : TG Try.prog 80 true := ⟨by kernel_rfl⟩
instance u80 : TU Try.prog 80 ((Go.TypeDesc.int Go.IntKind.i8)) := ⟨Try.underlying80⟩
instance g81 : TG Try.prog 81 true := ⟨by kernel_rfl⟩
instance u81 : TU Try.prog 81 ((Go.TypeDesc.int Go.IntKind.u64)) := ⟨Try.underlying81⟩
instance g83 : TG Try.prog 83 false := ⟨by kernel_rfl⟩
instance e83 : EG Try.prog 83 := ⟨by kernel_rfl⟩
instance u83 : TU Try.prog 83 ((Go.TypeDesc.array 4 81)) := ⟨Try.underlying83⟩
instance g85 : TG Try.prog 85 false := ⟨by kernel_rfl⟩
instance e85 : EG Try.prog 85 := ⟨by kernel_rfl⟩
instance b85 : TB Try.prog 85 [(0, 1), (1, 4), (5, 1), (6, 1), (7, 1), (8, 1)] := ⟨by kernel_rfl⟩
instance tq85 : TQ Try.prog 85 [(80, 0), (83, 1), (3, 5), (3, 6), (3, 7), (3, 8)] := ⟨by kernel_rfl⟩
instance s85 : TS Try.prog 85 [(80, 0), (83, 1), (3, 5), (3, 6), (3, 7), (3, 8)] := ts_of (by kernel_rfl)
instance g89 : TG Try.prog 89 true := ⟨by kernel_rfl⟩
instance u89 : TU Try.prog 89 ((Go.TypeDesc.slice 109)) := ⟨Try.underlying89⟩
instance g93 : TG Try.prog 93 false := ⟨by kernel_rfl⟩
instance b93 : TB Try.prog 93 [(0, 1)] := ⟨by kernel_rfl⟩
instance s93 : TS Try.prog 93 [(89, 0)] := ts_of (by kernel_rfl)
instance g98 : TG Try.prog 98 true := ⟨by kernel_rfl⟩
instance u98 : TU Try.prog 98 ((Go.TypeDesc.slice 4)) := ⟨Try.underlying98⟩
instance b100 : TB Try.prog 100 [(0, 1), (1, 1), (2, 1)] := ⟨by kernel_rfl⟩
instance s100 : TS Try.prog 100 [(22, 0), (3, 1), (98, 2)] := ts_of (by kernel_rfl)
instance b105 : TB Try.prog 105 [(0, 1), (1, 1), (2, 1)] := ⟨by kernel_rfl⟩
instance s105 : TS Try.prog 105 [(22, 0), (3, 1), (98, 2)] := ts_of (by kernel_rfl)
instance g109 : TG Try.prog 109 false := ⟨by kernel_rfl⟩
instance e109 : EG Try.prog 109 := ⟨by kernel_rfl⟩
instance b109 : TB Try.prog 109 [(0, 1), (1, 4), (5, 1), (6, 1)] := ⟨by kernel_rfl⟩
instance tq109 : TQ Try.prog 109 [(80, 0), (83, 1), (3, 5), (3, 6)] := ⟨by kernel_rfl⟩
instance s109 : TS Try.prog 109 [(80, 0), (83, 1), (3, 5), (3, 6)] := ts_of (by kernel_rfl)
instance g110 : TG Try.prog 110 true := ⟨by kernel_rfl⟩
instance g111 : TG Try.prog 111 true := ⟨by kernel_rfl⟩
instance u142 : TU Try.prog 142 ((Go.TypeDesc.pointer 154)) := ⟨Try.underlying142⟩
instance g151 : TG Try.prog 151 true := ⟨by kernel_rfl⟩
instance u151 : TU Try.prog 151 ((Go.TypeDesc.slice 152)) := ⟨Try.underlying151⟩
instance g152 : TG Try.prog 152 true := ⟨by kernel_rfl⟩
instance b154 : TB Try.prog 154 [(0, 1), (1, 1), (2, 1), (3, 1), (4, 1), (5, 1), (6, 1)] := ⟨by kernel_rfl⟩
instance s154 : TS Try.prog 154 [(89, 0), (151, 1), (152, 2), (65, 3), (65, 4), (98, 5), (3, 6)] := ts_of (by kernel_rfl)
instance g156 : TG Try.prog 156 true := ⟨by kernel_rfl⟩
instance g158 : TG Try.prog 158 true := ⟨by kernel_rfl⟩
instance u158 : TU Try.prog 158 ((Go.TypeDesc.map 177 80)) := ⟨Try.underlying158⟩
instance g159 : TG Try.prog 159 true := ⟨by kernel_rfl⟩
instance g160 : TG Try.prog 160 true := ⟨by kernel_rfl⟩
instance b162 : TB Try.prog 162 [(0, 1), (1, 1), (2, 1), (3, 1), (4, 1), (5, 1)] := ⟨by kernel_rfl⟩
instance s162 : TS Try.prog 162 [(22, 0), (65, 1), (23, 2), (158, 3), (159, 4), (160, 5)] := ts_of (by kernel_rfl)
instance g177 : TG Try.prog 177 false := ⟨by kernel_rfl⟩
instance b177 : TB Try.prog 177 [(0, 1), (1, 1), (2, 1), (3, 1)] := ⟨by kernel_rfl⟩
instance tq177 : TQ Try.prog 177 [(3, 0), (3, 1), (3, 2), (3, 3)] := ⟨by kernel_rfl⟩
instance s177 : TS Try.prog 177 [(3, 0), (3, 1), (3, 2), (3, 3)] := ts_of (by kernel_rfl)
instance i3 : TI Try.prog 3 1 8 := ti_of (by kernel_rfl)
instance i4 : TI Try.prog 4 1 1 := ti_of (by kernel_rfl)
instance i5 : TI Try.prog 5 1 1 := ti_of (by kernel_rfl)
instance i22 : TI Try.prog 22 1 24 := ti_of (by kernel_rfl)
instance i23 : TI Try.prog 23 1 24 := ti_of (by kernel_rfl)
instance i29 : TI Try.prog 29 1 24 := ti_of (by kernel_rfl)
instance i36 : TI Try.prog 36 2 32 := ti_of (by kernel_rfl)
instance i37 : TI Try.prog 37 1 24 := ti_of (by kernel_rfl)
instance i41 : TI Try.prog 41 5 72 := ti_of (by kernel_rfl)
instance i48 : TI Try.prog 48 1 24 := ti_of (by kernel_rfl)
instance i51 : TI Try.prog 51 2 16 := ti_of (by kernel_rfl)
instance i60 : TI Try.prog 60 2 32 := ti_of (by kernel_rfl)
instance i61 : TI Try.prog 61 1 24 := ti_of (by kernel_rfl)
instance i64 : TI Try.prog 64 1 24 := ti_of (by kernel_rfl)
instance i65 : TI Try.prog 65 1 24 := ti_of (by kernel_rfl)
instance i74 : TI Try.prog 74 1 16 := ti_of (by kernel_rfl)
instance i80 : TI Try.prog 80 1 1 := ti_of (by kernel_rfl)
instance i81 : TI Try.prog 81 1 8 := ti_of (by kernel_rfl)
instance i83 : TI Try.prog 83 4 32 := ti_of (by kernel_rfl)
instance i85 : TI Try.prog 85 9 72 := ti_of (by kernel_rfl)
instance i89 : TI Try.prog 89 1 24 := ti_of (by kernel_rfl)
instance i93 : TI Try.prog 93 1 24 := ti_of (by kernel_rfl)
instance i98 : TI Try.prog 98 1 24 := ti_of (by kernel_rfl)
instance i109 : TI Try.prog 109 7 56 := ti_of (by kernel_rfl)
instance i110 : TI Try.prog 110 1 8 := ti_of (by kernel_rfl)
instance i111 : TI Try.prog 111 1 8 := ti_of (by kernel_rfl)
instance i151 : TI Try.prog 151 1 24 := ti_of (by kernel_rfl)
instance i152 : TI Try.prog 152 1 2 := ti_of (by kernel_rfl)
instance i156 : TI Try.prog 156 1 8 := ti_of (by kernel_rfl)
instance i158 : TI Try.prog 158 1 8 := ti_of (by kernel_rfl)
instance i159 : TI Try.prog 159 1 8 := ti_of (by kernel_rfl)
instance i160 : TI Try.prog 160 1 8 := ti_of (by kernel_rfl)
instance i177 : TI Try.prog 177 4 32 := ti_of (by kernel_rfl)
instance z3 : TZ Try.prog 3 (.int .i64 0) := tz_of (by kernel_rfl)
instance z4 : TZ Try.prog 4 (.bool false) := tz_of (by kernel_rfl)
instance z5 : TZ Try.prog 5 (.int .u8 0) := tz_of (by kernel_rfl)
instance z23 : TZ Try.prog 23 (.slice none 0 0) := tz_of (by kernel_rfl)
instance z29 : TZ Try.prog 29 (.slice none 0 0) := tz_of (by kernel_rfl)
instance z36 : TZ Try.prog 36 (.agg [.int .i64 0, .slice none 0 0].toArray) := tz_of (by kernel_rfl)
instance z48 : TZ Try.prog 48 (.slice none 0 0) := tz_of (by kernel_rfl)
instance z51 : TZ Try.prog 51 (.agg [.int .i64 0, .int .i64 0].toArray) := tz_of (by kernel_rfl)
instance z60 : TZ Try.prog 60 (.agg [.bool false, .slice none 0 0].toArray) := tz_of (by kernel_rfl)
instance z65 : TZ Try.prog 65 (.slice none 0 0) := tz_of (by kernel_rfl)
instance z67 : TZ Try.prog 67 (.agg [.slice none 0 0, .slice none 0 0, .slice none 0 0, .slice none 0 0].toArray) := tz_of (by kernel_rfl)
instance z76 : TZ Try.prog 76 (.agg [.slice none 0 0, .nilIface, .int .i64 0].toArray) := tz_of (by kernel_rfl)
instance z80 : TZ Try.prog 80 (.int .i8 0) := tz_of (by kernel_rfl)
instance z83 : TZ Try.prog 83 (.agg [.int .u64 0, .int .u64 0, .int .u64 0, .int .u64 0].toArray) := tz_of (by kernel_rfl)
instance z85 : TZ Try.prog 85 (.agg [.int .i8 0, .int .u64 0, .int .u64 0, .int .u64 0, .int .u64 0, .int .i64 0, .int .i64 0, .int .i64 0, .int .i64 0].toArray) := tz_of (by kernel_rfl)
instance z89 : TZ Try.prog 89 (.slice none 0 0) := tz_of (by kernel_rfl)
instance z93 : TZ Try.prog 93 (.agg [.slice none 0 0].toArray) := tz_of (by kernel_rfl)
instance z100 : TZ Try.prog 100 (.agg [.slice none 0 0, .int .i64 0, .slice none 0 0].toArray) := tz_of (by kernel_rfl)
instance z105 : TZ Try.prog 105 (.agg [.slice none 0 0, .int .i64 0, .slice none 0 0].toArray) := tz_of (by kernel_rfl)
instance z109 : TZ Try.prog 109 (.agg [.int .i8 0, .int .u64 0, .int .u64 0, .int .u64 0, .int .u64 0, .int .i64 0, .int .i64 0].toArray) := tz_of (by kernel_rfl)
instance z110 : TZ Try.prog 110 (.nilFunc) := tz_of (by kernel_rfl)
instance z111 : TZ Try.prog 111 (.nilFunc) := tz_of (by kernel_rfl)
instance z152 : TZ Try.prog 152 (.int .i16 0) := tz_of (by kernel_rfl)
instance z154 : TZ Try.prog 154 (.agg [.slice none 0 0, .slice none 0 0, .int .i16 0, .slice none 0 0, .slice none 0 0, .slice none 0 0, .int .i64 0].toArray) := tz_of (by kernel_rfl)
instance z156 : TZ Try.prog 156 (.pointer none) := tz_of (by kernel_rfl)
instance z162 : TZ Try.prog 162 (.agg [.slice none 0 0, .slice none 0 0, .slice none 0 0, .map none, .nilFunc, .nilFunc].toArray) := tz_of (by kernel_rfl)
instance z177 : TZ Try.prog 177 (.agg [.int .i64 0, .int .i64 0, .int .i64 0, .int .i64 0].toArray) := tz_of (by kernel_rfl)
end Go.Proofs.Ytmpeokbongnniaa

/- Part of the proofs over this seat: see the text that holds the theorem. Conditions: each theorem bears its own. -/
namespace Go.Tab
open Go Go.HL

structure Fill {α : Type} (f : Nat → α) (n j : Nat) (l : List α) : Prop where
  len : l.length = n
  get : ∀ i, i < j → l[i]? = some (f i)
theorem Fill.zero {α : Type} {f : Nat → α} {l : List α} {n : Nat} (h : l.length = n) : Fill f n 0 l := ⟨h, fun _ h => by omega⟩
theorem Fill.step {α : Type} {f : Nat → α} {n j : Nat} {l : List α} (h : Fill f n j l) (hj : j < n) {y : α} (hy : y = f j) : Fill f n (j + 1) (l.set j y) := by
  refine ⟨by simp [h.len], fun i hi => ?_⟩
  subst hy
  by_cases e : j = i
  · subst e; rw [List.getElem?_set_self (by rw [h.len]; exact hj)]
  · rw [List.getElem?_set_ne e]; exact h.get i (by omega)
theorem Fill.done {α : Type} {f : Nat → α} {n j : Nat} {l : List α} (h : Fill f n j l) (hj : n ≤ j) : l = (List.range n).map f := by
  apply List.ext_getElem?
  intro i
  by_cases hi : i < n
  · rw [h.get i (by omega), List.getElem?_map, List.getElem?_range hi]; rfl
  · rw [List.getElem?_eq_none (by rw [h.len]; omega), List.getElem?_eq_none (by simp; omega)]

def idT : List UInt8 := (List.range 256).map UInt8.ofNat
def at0 (t : List UInt8) (i : Nat) : UInt8 := t.getD i 0
theorem at0_get {t : List UInt8} {i : Nat} (h : i < t.length) : t[i]? = some (at0 t i) := by simp [at0, h]

def thenT (t u : List UInt8) : List UInt8 := (List.range 256).map fun i => at0 u (at0 t i).toNat
def applyT (t b : List UInt8) : List UInt8 := (List.range b.length).map fun i => at0 t (at0 b i).toNat
def newAt (f t : List UInt8) : Nat → Option (List UInt8)
  | 0 => some idT
  | j + 1 => if at0 f j ∈ f.take j then none else (newAt f t j).map (·.set (at0 f j).toNat (at0 t j))
def newR (f t : List UInt8) : Option (List UInt8) := if f.length = t.length then newAt f t f.length else none
def zT : List UInt8 := List.replicate 256 0
def tabV (r : Option (List UInt8)) : Value := .tuple #[.agg (flat Eb (r.getD zT)).toArray, .int .i64 (if r.isSome then 0 else 60)]

def xyT : List UInt8 := (idT.set 97 120).set 98 121
attribute [irreducible] idT thenT applyT xyT
end Go.Tab

/- Part of the proofs over this seat: see the text that holds the theorem. Conditions: each theorem bears its own. -/
namespace Go.Tab
open Go Go.HL

def pIdx (t : List UInt8) (j : Nat) : List Nat := (List.range j).filter fun i => decide (at0 t i ≠ UInt8.ofNat i)
def pF (t : List UInt8) (j : Nat) : List UInt8 := (pIdx t j).map UInt8.ofNat
def pT (t : List UInt8) (j : Nat) : List UInt8 := (pIdx t j).map (at0 t)
end Go.Tab

/- Part of the proofs over this seat: see the text that holds the theorem. Conditions: each theorem bears its own. -/
namespace Go.Proofs.Ytmpeokbongnniaa
open Go Go.HL Go.Proofs Go.Tab

theorem eqBytes_fn (a a2 : Option Addr) (c c2 : Nat) (xs ys : List UInt8) : HL.Fn Try.prog 12 [.slice a xs.length c, .slice a2 ys.length c2] (fun w => Rd Eb w (.slice a xs.length c) xs ∧ Rd Eb w (.slice a2 ys.length c2) ys) [] (fun v _ => v = .bool (decide (xs = ys))) := by
  refine fn_of Try.func12 rfl rfl rfl fun w0 hw => ?_
  obtain ⟨hx, hy⟩ := hw
  have hsx := hx.sl
  have hsy := hy.sl
  have hbx := hsx.le
  have hby := hsy.le
  refine c_seq fun _ hK1 => ?_; refine c_region ?_; refine o_step rfl (s_assign rfl) ?_; refine o_nil ?_; refine x_then (hK1 _ _ ?_); refine c_seq fun _ hK2 => ?_; refine c_seq fun _ hK3 => ?_; refine c_region ?_; refine o_step rfl (s_move rfl) ?_; refine o_step rfl (s_len rfl) ?_; refine o_step rfl (s_move rfl) ?_; refine o_step rfl (s_len rfl) ?_; refine o_step rfl (s_neq rfl rfl) ?_; refine o_nil ?_; refine x_then (hK3 _ _ ?_); refine c_if rfl (fun hl => ?_) (fun hl => ?_)
  · skip
    refine c_seq fun _ hK4 => ?_; refine c_region ?_; refine o_step rfl (s_assign rfl) ?_; refine o_nil ?_; refine x_then (hK4 _ _ ?_); refine c_ret ?_; refine x_then_ret (?_); exact x_ret rfl (.tmp rfl (.nil)) (retF (by intro e; subst e; omega))
  · skip
    refine c_skip ?_; refine x_then (hK2 _ _ ?_); refine c_seq fun _ hK5 => ?_; refine c_seq fun _ hK6 => ?_; refine c_region ?_; refine o_step rfl (s_assign rfl) ?_; refine o_nil ?_; refine x_then (hK6 _ _ ?_); refine c_block ?_
    -- not carried: 4
    refine c_loopB (fun (j : Nat) => j ≤ xs.length ∧ xs.take j = ys.take j) (fun (j : Nat) => [(5, .int .i64 j)]) [(0, _), (1, _)] (fun (j : Nat) => _) (fun (j : Nat) => xs.length - j) 0 (by simp) sbA sbA hzB ?_
    rintro j ⟨hj, hjt⟩
    refine c_seq fun _ hK7 => ?_; refine c_seq fun _ hK8 => ?_; refine c_region ?_; refine o_step rfl (s_move rfl) ?_; refine o_step rfl (s_move rfl) ?_; refine o_step rfl (s_len rfl) ?_; refine o_step rfl (s_lss rfl rfl) ?_; refine o_nil ?_; refine x_then (hK8 _ _ ?_); refine c_if rfl (fun hlt => ?_) (fun hlt => ?_)
    · skip
      have hjx : j < xs.length := by omega
      have hjy : j < ys.length := by omega
      have ex := List.getElem?_eq_getElem hjx
      have ey := List.getElem?_eq_getElem hjy
      refine c_skip ?_; refine x_then (hK7 _ _ ?_); refine c_seq fun _ hK9 => ?_; refine c_block ?_; refine c_seq fun _ hK10 => ?_; refine c_quiet (by kernel_rfl) ?_; refine .op rfl (s_move rfl) ?_; refine .op rfl (s_move rfl) ?_; refine .op rfl (s_idx rfl rfl (by assumption) (by omega)) ?_; refine .op rfl (s_ld rfl ((RdK.old0 hx).ld j 0 ex rfl (by decide) (by omega))) ?_; refine .op rfl (s_move rfl) ?_; refine .op rfl (s_move rfl) ?_; refine .op rfl (s_idx rfl rfl (by assumption) (by omega)) ?_; refine .op rfl (s_ld rfl ((RdK.old0 hy).ld j 0 ey rfl (by decide) (by omega))) ?_; refine .op rfl (s_neq rfl rfl) ?_; refine .nil ?_; refine x_then (hK10 _ _ ?_); refine c_if rfl (fun hne => ?_) (fun hne => ?_)
      · skip
        refine c_seq fun _ hK11 => ?_; refine c_region ?_; refine o_step rfl (s_assign rfl) ?_; refine o_nil ?_; refine x_then (hK11 _ _ ?_); refine c_ret ?_; refine x_block_ret (x_then_ret (x_then_ret (x_block_ret (x_then_ret (?_)))))
        exact x_ret rfl (.tmp rfl (.nil)) (retF (by intro e; subst e; exact hne rfl))
      · skip
        refine c_skip ?_; refine x_block ?_; refine x_then (hK9 _ _ ?_); refine c_region ?_; refine o_step rfl (s_move rfl) ?_; refine o_step rfl (s_add rfl rfl (by omega)) ?_; refine o_step rfl (s_assign rfl) ?_; refine o_nil ?_
        have he : xs[j] = ys[j] := UInt8.toNat_inj.1 (by omega)
        exact x_then (x_inv (j + 1) ⟨by omega, by rw [List.take_add_one, List.take_add_one, hjt, ex, ey, he]⟩ (by first | omega | (dsimp only; omega)) sbA hzB)
    · skip
      refine c_exit ?_; refine x_then_exit ?_; refine x_then_exit ?_; refine x_block_exit ?_; refine x_then (hK5 _ _ ?_); refine c_seq fun _ hK12 => ?_; refine c_region ?_; refine o_step rfl (s_assign rfl) ?_; refine o_nil ?_; refine x_then (hK12 _ _ ?_); refine c_ret ?_; refine ?_; exact x_ret rfl (.tmp rfl (.nil)) (retT (by have e1 : xs.take j = xs := List.take_of_length_le (by omega); have e2 : ys.take j = ys := List.take_of_length_le (by omega); rw [← e1, ← e2]; exact hjt))

theorem clone_fn (a : Option Addr) (c : Nat) (xs : List UInt8) : HL.Fn Try.prog 30 [.slice a xs.length c] (fun w => Rd Eb w (.slice a xs.length c) xs) [] (fun v S' => ∃ a' c', v = .slice a' xs.length c' ∧ OwnS Eb 1 5 (.slice a' xs.length c') xs S') := by
  refine fn_of Try.func30 rfl rfl rfl fun w0 hw => ?_
  have hsx := hw.sl
  have hbx := hsx.le
  refine c_seq fun _ hK1 => ?_; refine c_region ?_; refine o_step rfl (s_assign rfl) ?_; refine o_nil ?_; refine x_then (hK1 _ _ ?_); refine c_seq fun _ hK2 => ?_; refine c_seq fun _ hK3 => ?_; refine c_region ?_; refine o_step rfl (s_move rfl) ?_; refine o_step rfl (s_eql_nils rfl rfl) ?_; refine o_nil ?_; refine x_then (hK3 _ _ ?_); refine c_cond rfl (fun hn => ?_) (fun hn => ?_)
  · skip
    have ha : a = none := Option.isNone_iff_eq_none.1 hn
    subst ha
    have hx0 : xs = [] := List.eq_nil_of_length_eq_zero hsx.none
    subst hx0; refine c_seq fun _ hK4 => ?_; refine c_region ?_; refine o_step rfl (s_assign rfl) ?_; refine o_nil ?_; refine x_then (hK4 _ _ ?_); refine c_ret ?_; refine x_then_ret (?_); exact x_ret rfl (.tmp rfl (.nil)) (⟨_, _, rfl, .nil⟩)
  · skip
    refine c_skip ?_; refine x_then (hK2 _ _ ?_); refine c_seq fun _ hK5 => ?_; refine c_region ?_; refine o_bs (E := Eb) (xs := []) (vs := []) rfl rfl rfl rfl rfl (by decide) (by decide) fun b5 S5 hS5 => ?_; refine o_step rfl (s_move rfl) ?_; refine o_app hS5 (RdK.old0 hw) rfl rfl rfl rfl (by simp; omega) (by simp; omega) rfl pkA fun a7 c7 S7 hS7 => ?_; refine o_step rfl (s_assign rfl) ?_; refine o_nil ?_; refine x_then (hK5 _ _ ?_); refine c_ret ?_; refine ?_
    simp only [List.nil_append] at hS7
    exact x_ret rfl (.tmp rfl (.nil)) (⟨_, _, rfl, by simpa using hS7⟩)

theorem copy_fn (a : Option Addr) (c : Nat) (xs : List UInt8) : HL.Fn Try.prog 10 [.slice a xs.length c] (fun w => Rd Eb w (.slice a xs.length c) xs) [] (fun v S' => ∃ a' c', v = .slice a' xs.length c' ∧ OwnS Eb 1 5 (.slice a' xs.length c') xs S') := by
  refine fn_of Try.func10 rfl rfl rfl fun w0 hw => ?_
  have hsx := hw.sl
  have hbx := hsx.le
  have h0 : OwnS Eb 1 5 (.slice none 0 0) [] [] := .nil
  refine c_seq fun _ hK1 => ?_; refine c_region ?_; refine o_step rfl (s_assign rfl) ?_; refine o_nil ?_; refine x_then (hK1 _ _ ?_); refine c_seq fun _ hK2 => ?_; refine c_region ?_; refine o_step rfl (s_assign rfl) ?_; refine o_nil ?_; refine x_then (hK2 _ _ ?_); refine c_seq fun _ hK3 => ?_; refine c_region ?_; refine o_step rfl (s_move rfl) ?_; refine o_step rfl (s_move rfl) ?_; refine o_app h0 (RdK.old0 hw) rfl rfl rfl rfl (by simp; omega) (by simp; omega) rfl pkA fun a6 c6 S6 hS6 => ?_; refine o_step rfl (s_assign rfl) ?_; refine o_nil ?_; refine x_then (hK3 _ _ ?_); refine c_ret ?_; refine ?_
  simp only [List.nil_append] at hS6
  exact x_ret rfl (.tmp rfl (.nil)) (⟨_, _, rfl, by simpa using hS6⟩)

theorem long_fn (n : Int) : HL.Fn Try.prog 7 [.int .i64 n] (fun _ => True) [] (fun v _ => v = .bool (decide (2147483647 < n))) := by
  refine fn_of Try.func7 rfl rfl rfl fun w0 hw => ?_; refine c_seq fun _ hK1 => ?_; refine c_region ?_; refine o_step rfl (s_assign rfl) ?_; refine o_nil ?_; refine x_then (hK1 _ _ ?_); refine c_seq fun _ hK2 => ?_; refine c_region ?_; refine o_step rfl (s_move rfl) ?_; refine o_step rfl (s_gtr rfl rfl) ?_; refine o_step rfl (s_assign rfl) ?_; refine o_nil ?_; refine x_then (hK2 _ _ ?_); refine c_ret ?_; refine ?_; exact x_ret rfl (.tmp rfl (.nil)) (rfl)
end Go.Proofs.Ytmpeokbongnniaa

/- Part of the proofs over this seat: see the text that holds the theorem. Conditions: each theorem bears its own. -/
namespace Go.HL.Kl
open Go Go.HL

/-! classes: sets of bytes, as numbers of 256 bits -/
abbrev Cl := BitVec 256
def wd (c : Cl) (i : Nat) : BitVec 64 := c.extractLsb' (64 * i) 64
def Ew (w : BitVec 64) : Value := .int .u64 w.toNat
def Ec (c : Cl) : List Value := [Ew (wd c 0), Ew (wd c 1), Ew (wd c 2), Ew (wd c 3)]
instance : Enc Ec 4 := ⟨fun _ => rfl, fun c v hv => by simp [Ec, Ew] at hv; rcases hv with rfl | rfl | rfl | rfl <;> rfl⟩
theorem Ec_one (c : Cl) : ∀ v ∈ Ec c, v.oneCell' = true := Enc.one c
theorem Ec_get (c : Cl) {i : Nat} (h : i < 4) : (Ec c)[i]? = some (Ew (wd c i)) := by
  match i, h with
  | 0, _ => rfl
  | 1, _ => rfl
  | 2, _ => rfl
  | 3, _ => rfl
def setw (c : Cl) (i : Nat) (w : BitVec 64) : Cl := (c &&& ~~~ ((BitVec.allOnes 64).setWidth 256 <<< (64 * i))) ||| (w.setWidth 256 <<< (64 * i))
theorem setw_get (c : Cl) {i : Nat} (w : BitVec 64) (_hi : i < 4) {j : Nat} (hj : j < 256) : (setw c i w).getLsbD j = if 64 * i ≤ j ∧ j < 64 * i + 64 then w.getLsbD (j - 64 * i) else c.getLsbD j := by
  simp only [setw, BitVec.getLsbD_or, BitVec.getLsbD_and, BitVec.getLsbD_not, BitVec.getLsbD_shiftLeft, BitVec.getLsbD_setWidth, BitVec.getLsbD_allOnes, hj, decide_true, Bool.true_and]
  by_cases h1 : j < 64 * i
  · simp [h1]; omega
  · have h2 : 64 * i ≤ j := by omega
    by_cases h3 : j < 64 * i + 64
    · have h4 : j - 64 * i < 64 := by omega
      have h5 : j - 64 * i < 256 := by omega
      simp [h1, h2, h3, h4, h5]
    · have h4 : ¬ (j - 64 * i < 64) := by omega
      have h5 : w.getLsbD (j - 64 * i) = false := BitVec.getLsbD_of_ge _ _ (by omega)
      simp [h1, h3, h4, h5]
theorem wd_get (c : Cl) (i : Nat) {j : Nat} (hj : j < 64) : (wd c i).getLsbD j = c.getLsbD (64 * i + j) := by
  simp [wd, hj]
theorem wd_setw (c : Cl) {i k : Nat} (w : BitVec 64) (hi : i < 4) (hk : k < 4) : wd (setw c i w) k = if i = k then w else wd c k := by
  apply BitVec.eq_of_getLsbD_eq
  intro j hj
  rw [wd_get _ _ hj, setw_get _ _ hi (by omega)]
  by_cases e : i = k
  · subst e
    have : 64 * i + j - 64 * i = j := by omega
    rw [if_pos (by omega), if_pos rfl, this]
  · rw [if_neg (by omega), if_neg e, wd_get _ _ hj]
theorem ext_wd {c d : Cl} (h : ∀ i, i < 4 → wd c i = wd d i) : c = d := by
  apply BitVec.eq_of_getLsbD_eq
  intro j hj
  have h1 := congrArg (fun w => BitVec.getLsbD w (j % 64)) (h (j / 64) (by omega))
  simp only [wd_get _ _ (show j % 64 < 64 by omega)] at h1
  have : 64 * (j / 64) + j % 64 = j := by omega
  rwa [this] at h1
theorem Ec_inj {c d : Cl} (h : Ec c = Ec d) : c = d := by
  simp only [Ec, Ew, List.cons.injEq, Value.int.injEq, true_and, and_true] at h
  obtain ⟨h0, h1, h2, h3⟩ := h
  refine ext_wd fun i hi => ?_
  match i, hi with
  | 0, _ => exact BitVec.eq_of_toNat_eq (by omega)
  | 1, _ => exact BitVec.eq_of_toNat_eq (by omega)
  | 2, _ => exact BitVec.eq_of_toNat_eq (by omega)
  | 3, _ => exact BitVec.eq_of_toNat_eq (by omega)
def Ic (c : Cl) : List Int := [((wd c 0).toNat : Int), ((wd c 1).toNat : Int), ((wd c 2).toNat : Int), ((wd c 3).toNat : Int)]
theorem Ec_ints (c : Cl) : Ec c = intsV .u64 (Ic c) := rfl
theorem Ic_inj {c d : Cl} : Ic c = Ic d ↔ c = d := ⟨fun h => Ec_inj (by rw [Ec_ints, Ec_ints, h]), fun h => by rw [h]⟩

/-! one byte -/
def bit (x : Nat) : Cl := 1#256 <<< x
theorem wrap_u64 (n : Int) : IntKind.u64.wrap n = n % 18446744073709551616 := by simp [IntKind.wrap, IntKind.signed, IntKind.bits]
theorem wrap64 (w : BitVec 64) : IntKind.u64.wrap (w.toNat : Int) = w.toNat := by
  have := w.isLt
  rw [wrap_u64]; omega
theorem of64 (w : BitVec 64) : BitVec.ofInt IntKind.u64.bits (w.toNat : Int) = w := by
  apply BitVec.eq_of_toNat_eq
  have := w.isLt
  simp [IntKind.bits]
theorem v_and63 {x : Nat} (hx : x < 256) : IntKind.u8.wrap (BitVec.ofInt IntKind.u8.bits (x : Int) &&& BitVec.ofInt IntKind.u8.bits 63).toNat = ((x % 64 : Nat) : Int) := by
  have : ∀ x : Fin 256, IntKind.u8.wrap (BitVec.ofInt IntKind.u8.bits (x.val : Int) &&& BitVec.ofInt IntKind.u8.bits 63).toNat = ((x.val % 64 : Nat) : Int) := by decide +kernel
  exact this ⟨x, hx⟩
theorem has_eq (w : BitVec 64) {k : Nat} (hk : k < 64) : decide (IntKind.u64.wrap (BitVec.ofInt IntKind.u64.bits ((w.toNat : Int).fdiv (2 ^ (min ((k : Nat) : Int).toNat IntKind.u64.bits))) &&& BitVec.ofInt IntKind.u64.bits 1).toNat = 1) = w.getLsbD k := by
  have e : min ((k : Nat) : Int).toNat IntKind.u64.bits = k := by simp [IntKind.bits]; omega
  rw [e]
  have h2 : ((2 : Int) ^ k) = ((2 ^ k : Nat) : Int) := by simp
  have h3 : (w.toNat : Int).fdiv (2 ^ k) = ((w >>> k).toNat : Int) := by
    rw [h2, Int.fdiv_eq_ediv_of_nonneg _ (Int.natCast_nonneg _), BitVec.toNat_ushiftRight, Nat.shiftRight_eq_div_pow]; rfl
  have h4 : BitVec.ofInt IntKind.u64.bits 1 = 1#64 := rfl
  rw [h3, of64, h4]
  have h6 : IntKind.u64.wrap ((w >>> k &&& 1#64).toNat : Int) = ((w >>> k &&& 1#64).toNat : Int) := wrap64 _
  refine (congrArg (fun z => decide (z = 1)) h6).trans ?_
  have h5 : (w >>> k &&& 1#64).toNat = if w.getLsbD k then 1 else 0 := by
    have := BitVec.and_one_eq_setWidth_ofBool_getLsbD (x := w >>> k)
    rw [this, BitVec.getLsbD_ushiftRight, Nat.add_zero]
    cases w.getLsbD k <;> rfl
  rw [h5]
  cases w.getLsbD k <;> simp
end Go.HL.Kl

/- Part of the proofs over this seat: see the text that holds the theorem. Conditions: each theorem bears its own. -/
namespace Go.HL.Kl
open Go Go.HL

theorem shr6_u8 {x : Nat} (hx : x < 256) : ((x : Int)).fdiv (2 ^ (min (6 : Int).toNat IntKind.u8.bits)) = ((x / 64 : Nat) : Int) := by
  have : ∀ x : Fin 256, ((x.val : Int)).fdiv (2 ^ (min (6 : Int).toNat IntKind.u8.bits)) = ((x.val / 64 : Nat) : Int) := by decide +kernel
  exact this ⟨x, hx⟩
theorem wd_bit (c : Cl) {x : Nat} (_hx : x < 256) : (wd c (x / 64)).getLsbD (x % 64) = c.getLsbD x := by
  rw [wd_get _ _ (by omega)]
  congr 1; omega
theorem hasB (c : Cl) {x : Nat} (hx : x < 256) : decide (IntKind.u64.wrap (BitVec.ofInt IntKind.u64.bits (((wd c (x / 64)).toNat : Int).fdiv (2 ^ (min (((x % 64 : Nat) : Nat) : Int).toNat IntKind.u64.bits))) &&& BitVec.ofInt IntKind.u64.bits 1).toNat = 1) = c.getLsbD x := by
  rw [has_eq _ (by omega), wd_bit c hx]
theorem Ec_zero : Ec 0#256 = [.int .u64 0, .int .u64 0, .int .u64 0, .int .u64 0] := by simp [Ec, Ew, wd]

theorem Ic_len (c : Cl) : (Ic c).length = 4 := rfl
section
variable {P : Program} {κ : Cx} {L : Loc} {H : Hp} {ty t t' : TypeId} {x y : Operand}
theorem s_neq_cl {e b : Nat} {k' : IntKind} [TU P t (.array 4 e)] [TU P e (.int k')] [TG P e true] [TI P e 1 b] [EG P t] {c d : Cl} (hx : ev L x = some (.agg (Ec c).toArray)) (hy : ev L y = some (.agg (Ec d).toArray)) : Step P κ (.binOp .neq t x y t') ty L H (.bool (decide (c ≠ d))) :=
  step_cast (s_neq_arr (j := .u64) (xs := Ic c) (ys := Ic d) (by rw [← Ec_ints]; exact hx) (by rw [← Ec_ints]; exact hy) (Ic_len c) (Ic_len d)) (congrArg Value.bool (decide_eq_decide.2 (not_congr Ic_inj)))
end

/-! word by word -/
def mapW (f : Nat → BitVec 64 → BitVec 64) (c : Cl) : Nat → Cl
  | 0 => c
  | i + 1 => setw (mapW f c i) i (f i (wd (mapW f c i) i))
def Part (p : Nat → Bool) (i : Nat) (c : Cl) : Prop := ∀ j, j < 256 → c.getLsbD j = (decide (j < i) && p j)
def rngTo (lo : Nat) : Nat → Cl
  | 0 => 0
  | x + 1 => if lo ≤ x then rngTo lo x ||| bit x else 0
def rng (lo hi : Nat) : Cl := rngTo lo (hi + 1)
def ofL (l : List UInt8) : Cl := l.foldl (fun c b => c ||| bit b.toNat) 0
def sizeTo (c : Cl) (i : Nat) : Nat := (List.range i).countP c.getLsbD
def size (c : Cl) : Nat := sizeTo c 256
def memsTo (c : Cl) (i : Nat) : List Nat := (List.range i).filter c.getLsbD
def mems (c : Cl) : List Nat := memsTo c 256
def Eby (b : Nat) : List Value := [.int .u8 b]
instance : Enc Eby 1 := ⟨fun _ => rfl, fun _ _ h => by simp [Eby] at h; subst h; rfl⟩
end Go.HL.Kl

/- Part of the proofs over this seat: see the text that holds the theorem. Conditions: each theorem bears its own. -/
namespace Go.HL.Kl
open Go Go.HL

/-! OnesCount64: the sums of the lanes -/
def pk (k : Nat) : Nat → (Nat → Nat) → Nat
  | 0, _ => 0
  | n + 1, f => 2 ^ k * pk k n (fun i => f (i + 1)) + f 0
def bt (w : BitVec 64) (i : Nat) : Nat := if w.getLsbD i then 1 else 0
def popW (w : BitVec 64) : Nat := (List.range 64).countP w.getLsbD
def sums (f : Nat → Nat) (i : Nat) : Nat := f (2 * i) + f (2 * i + 1)
def oc1 (w : BitVec 64) : BitVec 64 := ((w >>> 1) &&& 6148914691236517205#64) + (w &&& 6148914691236517205#64)
def oc2 (w : BitVec 64) : BitVec 64 := ((w >>> 2) &&& 3689348814741910323#64) + (w &&& 3689348814741910323#64)
def oc3 (w : BitVec 64) : BitVec 64 := ((w >>> 4) + w) &&& 1085102592571150095#64
def oc4 (k : Nat) (w : BitVec 64) : BitVec 64 := w + (w >>> k)
def sm (f : Nat → Nat) : Nat → Nat
  | 0 => 0
  | n + 1 => sm f n + f n
end Go.HL.Kl

/- Part of the proofs over this seat: see the text that holds the theorem. Conditions: each theorem bears its own. -/
namespace Go.HL.Kl
open Go Go.HL

/-! the size, word by word -/
def wmem (i : Nat) (w : BitVec 64) : List Nat := ((List.range 64).filter w.getLsbD).map fun j => 64 * i + j
def restW (c : Cl) (i : Nat) (w : BitVec 64) : List Nat := wmem i w ++ (mems c).drop (memsTo c (64 * i + 64)).length
end Go.HL.Kl

/- Mathematics of regexes as lists of nodes: forests, and what the layer 5 asks of them. Conditions: none. -/
namespace Go.HL.Kl.Mc
open Go Go.HL Go.HL.Kl
structure Nd where
  op : Int
  set : Cl
  n : Int
  mn : Int
  mx : Int
  kids : Int
  deriving DecidableEq
def En (x : Nd) : List Value := .int .i8 x.op :: (Ec x.set ++ [.int .i64 x.n, .int .i64 x.mn, .int .i64 x.mx, .int .i64 x.kids])
instance : Enc En 9 := ⟨fun x => by simp [En, Enc.len], fun x v hv => by
  simp only [En, List.mem_cons, List.mem_append, List.not_mem_nil, or_false] at hv
  rcases hv with rfl | hv | rfl | rfl | rfl | rfl
  · rfl
  · exact Ec_one _ v hv
  all_goals rfl⟩
def flds (x : Nd) : Bool :=
  decide (1 ≤ x.op ∧ x.op ≤ 8) && (decide (x.op = 1) || decide (x.set = 0)) && (decide (x.op = 7 ∨ x.op = 8) || decide (x.n = 0)) &&
  (if x.op = 6 then decide (0 ≤ x.mn ∧ x.mn ≤ 255 ∧ (x.mx = -1 ∨ x.mn ≤ x.mx ∧ x.mx ≤ 255)) else decide (x.mn = 0 ∧ x.mx = 0))
def kidsOk (x : Nd) : Bool :=
  if x.op = 6 ∨ x.op = 7 then decide (x.kids = 1) else if x.op = 4 then decide (x.kids = 0 ∨ 2 ≤ x.kids) else if x.op = 5 then decide (2 ≤ x.kids) else decide (x.kids = 0)
def ndOk (x : Nd) : Bool := flds x && kidsOk x
inductive F
  | nil
  | nd (x : Nd) (ks r : F)
namespace F
def flat : F → List Nd
  | nil => []
  | nd x ks r => x :: (ks.flat ++ r.flat)
def num : F → Nat
  | nil => 0
  | nd _ _ r => r.num + 1
def size : F → Nat
  | nil => 0
  | nd _ ks r => ks.size + r.size + 1
def wf : F → Prop
  | nil => True
  | nd x ks r => ndOk x = true ∧ (ks.num : Int) = x.kids ∧ ks.wf ∧ r.wf
def depth : F → Nat
  | nil => 0
  | nd _ ks r => max (ks.depth + 1) r.depth
theorem flat_size : ∀ f : F, f.flat.length = f.size
  | nil => rfl
  | nd x ks r => by simp only [flat, List.length_cons, List.length_append, flat_size ks, flat_size r, size]
end F
end Go.HL.Kl.Mc

/- Mathematics of regexes as lists of nodes: which are well shaped. Conditions: none. -/
namespace Go.HL.Kl.Mc
open Go Go.HL Go.HL.Kl
def gate (x : Nd) (en : List Bool) (g : Nat) : Option (List Bool × Nat) :=
  if x.op = 8 then (if 1 ≤ x.n ∧ x.n ≤ en.length ∧ en[x.n.toNat - 1]? = some true then some (en, g) else none)
  else if x.op = 7 then (if x.n = en.length + 1 ∧ x.n ≤ 255 ∧ g < 64 then some (en ++ [false], g + 1) else none)
  else some (en, g)
def kidsN (step : Nat → List Bool → Option (Nat × List Bool)) : Nat → Nat → List Bool → Option (Nat × List Bool)
  | 0, i, en => some (i, en)
  | k + 1, i, en => match step i en with
    | none => none
    | some (i', en') => kidsN step k i' en'
def shN (re : List Nd) : Nat → Nat → List Bool → Nat → Option (Nat × List Bool)
  | 0, _, _, _ => none
  | f + 1, i, en, g => match re[i]? with
    | none => none
    | some x => if ndOk x = true then
        match gate x en g with
        | none => none
        | some (en1, g1) => match kidsN (fun i en => shN re f i en g1) x.kids.toNat (i + 1) en1 with
          | none => none
          | some (i2, en2) => some (i2, if x.op = 7 then en2.set (x.n.toNat - 1) true else en2)
      else none
theorem ndOk_kids {x : Nd} (h : ndOk x = true) : 0 ≤ x.kids := by
  simp only [ndOk, Bool.and_eq_true, kidsOk] at h
  have h := h.2
  split at h
  · simp at h; omega
  · split at h
    · simp at h; omega
    · split at h <;> simp at h <;> omega
structure TreeAt (re : List Nd) (d i i' : Nat) (x : Nd) (ks : F) : Prop where
  wf : (F.nd x ks .nil).wf
  flat : re.drop i = x :: (ks.flat ++ re.drop i')
  dep : ks.depth + 1 ≤ d
  len : i' = i + 1 + ks.size
  le : i' ≤ re.length
structure ForAt (re : List Nd) (d k i i' : Nat) (ks : F) : Prop where
  wf : ks.wf
  num : ks.num = k
  flat : re.drop i = ks.flat ++ re.drop i'
  dep : ks.depth ≤ d
  len : i' = i + ks.size
  le : i ≤ re.length → i' ≤ re.length
theorem kidsN_for {re : List Nd} {d : Nat} {step : Nat → List Bool → Option (Nat × List Bool)} (hs : ∀ i en i' en', step i en = some (i', en') → ∃ x ks, TreeAt re d i i' x ks) :
    ∀ k i en i' en', kidsN step k i en = some (i', en') → ∃ ks, ForAt re d k i i' ks := by
  intro k
  induction k with
  | zero =>
    intro i en i' en' h
    simp only [kidsN, Option.some.injEq, Prod.mk.injEq] at h
    obtain ⟨rfl, rfl⟩ := h
    exact ⟨.nil, trivial, rfl, rfl, Nat.zero_le _, rfl, id⟩
  | succ k ih =>
    intro i en i' en' h
    simp only [kidsN] at h
    split at h
    · cases h
    · rename_i j en1 hst
      obtain ⟨x, ks, ht⟩ := hs _ _ _ _ hst
      obtain ⟨r, hr⟩ := ih _ _ _ _ h
      refine ⟨.nd x ks r, ⟨ht.wf.1, ht.wf.2.1, ht.wf.2.2.1, hr.wf⟩, by simp [F.num, hr.num], by rw [ht.flat, hr.flat]; simp [F.flat], ?_, by rw [hr.len, ht.len]; simp only [F.size]; omega, fun _ => hr.le ht.le⟩
      simp only [F.depth]
      have := ht.dep; have := hr.dep
      omega
theorem shN_tree {re : List Nd} : ∀ f i en g i' en', shN re f i en g = some (i', en') → ∃ x ks, TreeAt re f i i' x ks := by
  intro f
  induction f with
  | zero => intro i en g i' en' h; cases h
  | succ f ih =>
    intro i en g i' en' h
    simp only [shN] at h
    split at h
    · cases h
    · rename_i x hx
      have hlt : i < re.length := (List.getElem?_eq_some_iff.1 hx).1
      split at h
      · rename_i hok
        split at h
        · cases h
        · rename_i en1 g1 hg
          split at h
          · cases h
          · rename_i i2 en2 hk
            simp only [Option.some.injEq, Prod.mk.injEq] at h
            obtain ⟨rfl, -⟩ := h
            obtain ⟨ks, hks⟩ := kidsN_for (fun i en i' en' h => ih i en g1 i' en' h) _ _ _ _ _ hk
            have h0 := ndOk_kids hok
            refine ⟨x, ks, ⟨hok, by rw [hks.num]; omega, hks.wf, trivial⟩, ?_, by have := hks.dep; omega, by rw [hks.len], hks.le hlt⟩
            rw [List.drop_eq_getElem_cons hlt, hks.flat]
            rw [List.getElem?_eq_getElem hlt] at hx
            simp at hx
            rw [hx]
      · cases h
def times (x : Nd) : Nat := if x.op = 6 then (if x.mx < 0 then x.mn.toNat + 1 else max x.mx.toNat 1) else 1
namespace F
def weight : F → Nat
  | nil => 0
  | nd x ks r => (1 + times x * ks.weight) + r.weight
end F
def cut (n : Nat) : Nat := min n 16385
theorem cut_add (a b : Nat) : cut (cut a + cut b) = cut (a + b) := by unfold cut; omega
theorem cut_mul {t a : Nat} (ht : 1 ≤ t) : cut (1 + t * cut a) = cut (1 + t * a) := by
  unfold cut
  rcases Nat.le_total a 16385 with h | h
  · rw [Nat.min_eq_left h]
  · rw [Nat.min_eq_right h]
    have h1 : 16385 ≤ t * 16385 := Nat.le_mul_of_pos_left _ ht
    have h2 : t * 16385 ≤ t * a := Nat.mul_le_mul_left _ h
    omega
theorem times_pos (x : Nd) : 1 ≤ times x := by
  unfold times
  split
  · split <;> omega
  · exact Nat.le_refl _
theorem times_le {x : Nd} (h : ndOk x = true) : times x ≤ 256 := by
  simp only [ndOk, flds, Bool.and_eq_true] at h
  have h := h.1.2
  unfold times
  split
  · rename_i h6
    rw [if_pos h6] at h
    simp at h
    split <;> omega
  · omega
structure Shp (re : List Nd) (x : Nd) (ks : F) : Prop where
  wf : (F.nd x ks .nil).wf
  flat : re = x :: ks.flat
  dep : ks.depth + 1 ≤ 260
  weight : (F.nd x ks .nil).weight ≤ 16384
open Classical in
noncomputable def shapedP (re : List Nd) : Bool := decide (∃ en, shN re 260 0 [] 0 = some (re.length, en)) && decide (∃ x ks, Shp re x ks)
end Go.HL.Kl.Mc
