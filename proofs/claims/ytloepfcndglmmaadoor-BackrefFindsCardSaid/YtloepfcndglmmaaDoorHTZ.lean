/- Steps of a drawn region, their side conditions found. Conditions: none. -/
import Derived.Test.YtloepfcndglmmaaDoorHlB
import Derived.Test.YtloepfcndglmmaaDoorProg
import Derived.KernelRfl
import Derived.Lib.TrailingZeros
namespace Go.HL
open Go
/-- e_take, its side conditions found -/
theorem e_tk {P : Program} {κ : Cx} {ops : Array Oper} {Q : Pst} {late : Nat → Bool} {L : Loc} {H : Hp} {op : Op} {d : Nat} {ty : TypeId} {pos : String} {af : Array Edge} {v : Value} (i : Nat) {fuel : Nat} {listed : Array Bool} {Hs : Hp} {g : Option (Nat × Bool)} (hi : ops[i]? = some ⟨some d, op, ty, pos, af, g⟩) (hS : HSub H Hs) (hs : Step P κ op ty L Hs v) (h : E P κ ops Q Hs late fuel (listed.setIfInBounds i true) ((d, v) :: L) H) (hsl : Region.noSelect ops = true := by kernel_rfl) (hfr : Region.free .any ops listed i = true := by kernel_rfl) (hr : (Region.ready .any ops listed).contains i = true := by kernel_rfl)
    (hlt : lateB ops late i = true := by kernel_rfl) (hg : ∀ a : Act, Fr a κ.n κ.ds L → Region.wanted ⟨some d, op, ty, pos, af, g⟩ (yielded ops a.tmps) = true := by exact fun _ _ => rfl) (hn : Nat.blt d κ.n = true := by rfl) : E P κ ops Q Hs late (fuel + 1) listed L H := e_take i hi hsl hfr hr hlt hg hn hS hs h
theorem e_tg {P : Program} {κ : Cx} {ops : Array Oper} {Q : Pst} {late : Nat → Bool} {L : Loc} {H : Hp} {op : Op} {d : Nat} {ty : TypeId} {pos : String} {af : Array Edge} {v : Value} (i : Nat) {fuel : Nat} {listed : Array Bool} {Hs : Hp} {g : Option (Nat × Bool)} (hi : ops[i]? = some ⟨some d, op, ty, pos, af, g⟩) (hS : HSub H Hs) (hs : Step P κ op ty L Hs v) (h : E P κ ops Q Hs late fuel (listed.setIfInBounds i true) ((d, v) :: L) H) (hsl : Region.noSelect ops = true := by kernel_rfl) (hfr : Region.free .any ops listed i = true := by kernel_rfl) (hr : (Region.ready .any ops listed).contains i = true := by kernel_rfl)
    (hlt : lateB ops late i = true := by kernel_rfl) (hg : ∀ a : Act, Fr a κ.n κ.ds L → Region.wanted ⟨some d, op, ty, pos, af, g⟩ (yielded ops a.tmps) = true := by exact fun _ fr => by rw [wanted_of fr rfl rfl rfl]; rfl) (hn : Nat.blt d κ.n = true := by rfl) : E P κ ops Q Hs late (fuel + 1) listed L H := e_take i hi hsl hfr hr hlt hg hn hS hs h
theorem e_pr {P : Program} {κ : Cx} {ops : Array Oper} {Q : Pst} {late : Nat → Bool} {L : Loc} {H : Hp} {op : Op} {d : Nat} {ty : TypeId} {pos : String} {af : Array Edge} {v : Value} (i : Nat) {fuel : Nat} {listed : Array Bool} {Hs : Hp} (hi : ops[i]? = some ⟨some d, op, ty, pos, af, none⟩) (hs : Step P κ op ty L [] v) (h : E P κ ops Q Hs late fuel (listed.setIfInBounds i true) ((d, v) :: L) H) (hsl : Region.noSelect ops = true := by kernel_rfl) (hfr : Region.free .any ops listed i = true := by kernel_rfl) (hr : (Region.ready .any ops listed).contains i = true := by kernel_rfl) (hn : Nat.blt d κ.n = true := by rfl) : E P κ ops Q Hs late (fuel + 1) listed L H := e_pure i hi hsl hfr hr hn hs h
theorem e_sk {P : Program} {κ : Cx} {ops : Array Oper} {Q : Pst} {late : Nat → Bool} {L : Loc} {H : Hp} {op : Op} {d : Nat} {ty : TypeId} {pos : String} {af : Array Edge} (i : Nat) {fuel : Nat} {listed : Array Bool} {Hs : Hp} {j t : Nat} {b c : Bool} (hi : ops[i]? = some ⟨some d, op, ty, pos, af, some (j, b)⟩) (h : E P κ ops Q Hs late fuel (listed.setIfInBounds i true) ((d, undef) :: L) H) (hsl : Region.noSelect ops = true := by kernel_rfl) (hfr : Region.free .any ops listed i = true := by kernel_rfl) (hr : (Region.ready .any ops listed).contains i = true := by kernel_rfl) (hj : (ops[j]?).bind (·.dst) = some t := by rfl) (ht : look L t = some (.bool c) := by rfl) (hne : (c == b) = false := by rfl) (hn : Nat.blt d κ.n = true := by rfl) : E P κ ops Q Hs late (fuel + 1) listed L H := e_skip i hi hsl hfr hr hj ht hne hn h
section
variable {P : Program} {κ : Cx} {Q : Pst} {L : Loc} {H : Hp} {ops : Array Oper} {rest : List Oper} {d : Nat} {ty t t' : TypeId} {pos : String} {af : Array Edge} {op : Op} {x y z : Operand} {u v : Value} {k : IntKind} {a b : Int}
theorem oS (hs : Step P κ op ty L H v) (h : O P κ ops Q rest ((d, v) :: L) H) (hn : Nat.blt d κ.n = true := by exact rfl) : O P κ ops Q (⟨some d, op, ty, pos, af, none⟩ :: rest) L H := o_step hn hs h
theorem sM (hx : ev L x = some v := by exact rfl) : Step P κ (.move x) ty L H v := s_move hx
theorem sA (hx : ev L x = some v := by exact rfl) : Step P κ (.assign x) ty L H v := s_assign hx
theorem oM (h : O P κ ops Q rest ((d, v) :: L) H) (hx : ev L x = some v := by exact rfl) (hn : Nat.blt d κ.n = true := by exact rfl) : O P κ ops Q (⟨some d, .move x, ty, pos, af, none⟩ :: rest) L H := o_step hn (s_move hx) h
theorem oA (h : O P κ ops Q rest ((d, v) :: L) H) (hx : ev L x = some v := by exact rfl) (hn : Nat.blt d κ.n = true := by exact rfl) : O P κ ops Q (⟨some d, .assign x, ty, pos, af, none⟩ :: rest) L H := o_step hn (s_assign hx) h
theorem sF {b off f ft fo : Nat} {fs : List (Nat × Nat)} [ts : TS P t fs] (hx : ev L x = some (.pointer (some ⟨b, off, none⟩)) := by exact rfl) (hf : fs[f]? = some (ft, fo) := by exact rfl) (ti : ∃ s by', TI P ft s by' ∧ s ≠ 0 := by exact ⟨_, _, inferInstance, by decide⟩) : Step P κ (.fieldAddr t x f) ty L H (.pointer (some ⟨b, off + fo, none⟩)) := by
  obtain ⟨s, by', h1, h2⟩ := ti
  exact s_field hx hf h2
theorem sL {b off : Nat} [h : TG P t true] (hx : ev L x = some (.pointer (some ⟨b, off, none⟩)) := by exact rfl) (hc : Cel κ H ⟨b, off, none⟩ v := by exact .own meA rfl) : Step P κ (.load t x) ty L H v := s_ld hx hc
theorem sN {a : Addr} (hx : ev L x = some (.pointer (some a)) := by exact rfl) : Step P κ (.nilCheck x) ty L H (.pointer (some a)) := s_nil hx
theorem sE {vs : Array Value} {i : Nat} (hx : ev L x = some (.tuple vs) := by exact rfl) (hv : vs[i]? = some v := by exact rfl) : Step P κ (.extract x i) ty L H v := s_extract hx hv
theorem sC {e : TypeId} {a : Option Addr} {n c : Nat} [TU P t (.slice e)] (hx : ev L x = some (.slice a n c) := by exact rfl) : Step P κ (.call ⟨.builtin .len, #[x], #[t]⟩) ty L H (.int .i64 n) := s_len hx
theorem sT (hz : ev L z = some (.bool true) := by exact rfl) (hx : ev L x = some u := by exact rfl) : Step P κ (.pick z x y) ty L H u := s_pick_t hz hx
theorem sP (hz : ev L z = some (.bool false) := by exact rfl) (hy : ev L y = some v := by exact rfl) : Step P κ (.pick z x y) ty L H v := s_pick_f hz hy
theorem sD (hx : ev L x = some (.int .i64 a) := by exact rfl) (hy : ev L y = some (.int .i64 b) := by exact rfl) (h : -9223372036854775808 ≤ a + b ∧ a + b ≤ 9223372036854775807 := by omega) : Step P κ (.binOp .add t x y t') ty L H (.int .i64 (a + b)) := s_add hx hy h
theorem sU (hx : ev L x = some (.int .i64 a) := by exact rfl) (hy : ev L y = some (.int .i64 b) := by exact rfl) (h : -9223372036854775808 ≤ a - b ∧ a - b ≤ 9223372036854775807 := by omega) : Step P κ (.binOp .sub t x y t') ty L H (.int .i64 (a - b)) := s_sub hx hy h
theorem lsT (hx : ev L x = some (.int k a) := by exact rfl) (hy : ev L y = some (.int k b) := by exact rfl) (h : a < b := by omega) : Step P κ (.binOp .lss t x y t') ty L H (.bool true) := step_cast (s_lss hx hy) (by rw [decide_eq_true h])
theorem lsF (hx : ev L x = some (.int k a) := by exact rfl) (hy : ev L y = some (.int k b) := by exact rfl) (h : ¬ a < b := by omega) : Step P κ (.binOp .lss t x y t') ty L H (.bool false) := step_cast (s_lss hx hy) (by rw [decide_eq_false h])
theorem leT (hx : ev L x = some (.int k a) := by exact rfl) (hy : ev L y = some (.int k b) := by exact rfl) (h : a ≤ b := by omega) : Step P κ (.binOp .leq t x y t') ty L H (.bool true) := step_cast (s_leq hx hy) (by rw [decide_eq_true h])
theorem leF (hx : ev L x = some (.int k a) := by exact rfl) (hy : ev L y = some (.int k b) := by exact rfl) (h : ¬ a ≤ b := by omega) : Step P κ (.binOp .leq t x y t') ty L H (.bool false) := step_cast (s_leq hx hy) (by rw [decide_eq_false h])
theorem gtT (hx : ev L x = some (.int k a) := by exact rfl) (hy : ev L y = some (.int k b) := by exact rfl) (h : b < a := by omega) : Step P κ (.binOp .gtr t x y t') ty L H (.bool true) := step_cast (s_gtr hx hy) (by rw [decide_eq_true h])
theorem gtF (hx : ev L x = some (.int k a) := by exact rfl) (hy : ev L y = some (.int k b) := by exact rfl) (h : ¬ b < a := by omega) : Step P κ (.binOp .gtr t x y t') ty L H (.bool false) := step_cast (s_gtr hx hy) (by rw [decide_eq_false h])
theorem geT (hx : ev L x = some (.int k a) := by exact rfl) (hy : ev L y = some (.int k b) := by exact rfl) (h : b ≤ a := by omega) : Step P κ (.binOp .geq t x y t') ty L H (.bool true) := step_cast (s_geq hx hy) (by rw [decide_eq_true h])
theorem geF (hx : ev L x = some (.int k a) := by exact rfl) (hy : ev L y = some (.int k b) := by exact rfl) (h : ¬ b ≤ a := by omega) : Step P κ (.binOp .geq t x y t') ty L H (.bool false) := step_cast (s_geq hx hy) (by rw [decide_eq_false h])
theorem eqT (hx : ev L x = some (.int k a) := by exact rfl) (hy : ev L y = some (.int k b) := by exact rfl) (h : a = b := by omega) : Step P κ (.binOp .eql t x y t') ty L H (.bool true) := step_cast (s_eql hx hy) (by rw [decide_eq_true h])
theorem eqF (hx : ev L x = some (.int k a) := by exact rfl) (hy : ev L y = some (.int k b) := by exact rfl) (h : ¬ a = b := by omega) : Step P κ (.binOp .eql t x y t') ty L H (.bool false) := step_cast (s_eql hx hy) (by rw [decide_eq_false h])
theorem nqT (hx : ev L x = some (.int k a) := by exact rfl) (hy : ev L y = some (.int k b) := by exact rfl) (h : a ≠ b := by omega) : Step P κ (.binOp .neq t x y t') ty L H (.bool true) := step_cast (s_neq hx hy) (by rw [decide_eq_true h])
theorem nqF (hx : ev L x = some (.int k a) := by exact rfl) (hy : ev L y = some (.int k b) := by exact rfl) (h : ¬ a ≠ b := by omega) : Step P κ (.binOp .neq t x y t') ty L H (.bool false) := step_cast (s_neq hx hy) (by rw [decide_eq_false h])
theorem oN {j : Nat} {b c : Bool} {t : Nat} (h : O P κ ops Q rest ((d, undef) :: L) H) (hj : (ops[j]?).bind (·.dst) = some t := by exact rfl) (ht : look L t = some (.bool c) := by exact rfl) (hne : (c == b) = false := by exact rfl) (hn : Nat.blt d κ.n = true := by exact rfl) : O P κ ops Q (⟨some d, op, ty, pos, af, some (j, b)⟩ :: rest) L H := o_no hj ht hne hn h
theorem oY {j : Nat} {b : Bool} {t : Nat} {o : Option Tmp} (h : O P κ ops Q (⟨o, op, ty, pos, af, none⟩ :: rest) L H) (hj : (ops[j]?).bind (·.dst) = some t := by exact rfl) (ht : look L t = some (.bool b) := by exact rfl) : O P κ ops Q (⟨o, op, ty, pos, af, some (j, b)⟩ :: rest) L H := o_yes hj ht h
theorem cR {id : Nat} {l : List Oper} {y : Code} (h : ∀ K : Act → World → Prop, (∀ L H, C P κ Q y L H → X κ K L H) → O P κ l.toArray (Exit.then K Q) l L H) : C P κ Q (.seq (.region id l.toArray false) y) L H := c_seq fun K hK => c_region (h K hK)
theorem oZ {K : Act → World → Prop} {y : Code} {Q' : Pst} (hK : ∀ L H, C P κ Q' y L H → X κ K L H) (h : C P κ Q' y L H) : O P κ ops (Exit.then K Q) [] L H := o_nil (x_then (hK _ _ h))
theorem xZ {K : Act → World → Prop} {y : Code} {Q' : Pst} (hK : ∀ L H, C P κ Q' y L H → X κ K L H) (h : C P κ Q' y L H) : X κ (Exit.then K Q .normal) L H := x_then (hK _ _ h)
theorem cF {c : Operand} {x y : Code} (h : C P κ Q y L H) (hc : ev L c = some (.bool false) := by exact rfl) : C P κ Q (.cond c x y) L H := c_false hc h
theorem cT {c : Operand} {x y : Code} (h : C P κ Q x L H) (hc : ev L c = some (.bool true) := by exact rfl) : C P κ Q (.cond c x y) L H := c_true hc h
theorem cFZ {c : Operand} {x y : Code} {K : Act → World → Prop} {Q' : Pst} (hK : ∀ L H, C P κ Q' y L H → X κ K L H) (h : C P κ Q' y L H) (hc : ev L c = some (.bool false) := by exact rfl) : C P κ (Exit.then K Q) (.cond c x .skip) L H := c_false hc (c_skip (x_then (hK _ _ h)))
theorem cTZ {c : Operand} {x y : Code} {K : Act → World → Prop} {Q' : Pst} (hK : ∀ L H, C P κ Q' y L H → X κ K L H) (h : C P κ Q' y L H) (hc : ev L c = some (.bool true) := by exact rfl) : C P κ (Exit.then K Q) (.cond c .skip x) L H := c_true hc (c_skip (x_then (hK _ _ h)))
variable {late : Nat → Bool} {fuel : Nat} {listed : Array Bool} {Hs : Hp}
theorem eZ {K : Act → World → Prop} {y : Code} {Q' : Pst} (hK : ∀ L H, C P κ Q' y L H → X κ K L H) (h : C P κ Q' y L H) (hr : Region.ready .any ops listed = [] := by kernel_rfl) : E P κ ops (Exit.then K Q) Hs late fuel listed L H := e_done hr (x_then (hK _ _ h))
theorem eO (i : Nat) {o : Oper} (hi : ops[i]? = some o) (h : O P κ ops (OneE P κ ops Q Hs late fuel listed i) [o] L H) (hr : Region.ready .any ops listed = [i] := by kernel_rfl) : E P κ ops Q Hs late (fuel + 1) listed L H := e_one i hi hr h
theorem oX {i : Nat} (h : E P κ ops Q Hs late fuel (listed.setIfInBounds i true) L H) (hS : HSub H Hs := by exact hzB) : O P κ ops (OneE P κ ops Q Hs late fuel listed i) [] L H := o_nil (x_oneS hS h)
theorem eK {op : Op} {g : Option (Nat × Bool)} (i : Nat) (hi : ops[i]? = some ⟨some d, op, ty, pos, af, g⟩) (hs : Step P κ op ty L Hs v) (h : E P κ ops Q Hs late fuel (listed.setIfInBounds i true) ((d, v) :: L) H) (hS : HSub H Hs := by exact hzB) (hsl : Region.noSelect ops = true := by kernel_rfl) (hfr : Region.free .any ops listed i = true := by kernel_rfl) (hr : (Region.ready .any ops listed).contains i = true := by kernel_rfl)
    (hlt : lateB ops late i = true := by kernel_rfl) (hg : ∀ a : Act, Fr a κ.n κ.ds L → Region.wanted ⟨some d, op, ty, pos, af, g⟩ (yielded ops a.tmps) = true := by exact fun _ _ => rfl) (hn : Nat.blt d κ.n = true := by rfl) : E P κ ops Q Hs late (fuel + 1) listed L H := e_take i hi hsl hfr hr hlt hg hn hS hs h
theorem eS {op : Op} (i : Nat) {j t : Nat} {b c : Bool} (hi : ops[i]? = some ⟨some d, op, ty, pos, af, some (j, b)⟩) (h : E P κ ops Q Hs late fuel (listed.setIfInBounds i true) ((d, undef) :: L) H) (hsl : Region.noSelect ops = true := by kernel_rfl) (hfr : Region.free .any ops listed i = true := by kernel_rfl) (hr : (Region.ready .any ops listed).contains i = true := by kernel_rfl) (hj : (ops[j]?).bind (·.dst) = some t := by rfl) (ht : look L t = some (.bool c) := by rfl) (hne : (c == b) = false := by rfl) (hn : Nat.blt d κ.n = true := by rfl) : E P κ ops Q Hs late (fuel + 1) listed L H := e_skip i hi hsl hfr hr hj ht hne hn h
theorem eG {op : Op} {g : Option (Nat × Bool)} (i : Nat) (hi : ops[i]? = some ⟨some d, op, ty, pos, af, g⟩) (hs : Step P κ op ty L Hs v) (h : E P κ ops Q Hs late fuel (listed.setIfInBounds i true) ((d, v) :: L) H) (hS : HSub H Hs := by exact hzB) (hsl : Region.noSelect ops = true := by kernel_rfl) (hfr : Region.free .any ops listed i = true := by kernel_rfl) (hr : (Region.ready .any ops listed).contains i = true := by kernel_rfl)
    (hlt : lateB ops late i = true := by kernel_rfl) (hg : ∀ a : Act, Fr a κ.n κ.ds L → Region.wanted ⟨some d, op, ty, pos, af, g⟩ (yielded ops a.tmps) = true := by exact fun _ fr => by rw [wanted_of fr rfl rfl rfl]; rfl) (hn : Nat.blt d κ.n = true := by rfl) : E P κ ops Q Hs late (fuel + 1) listed L H := e_take i hi hsl hfr hr hlt hg hn hS hs h
theorem eP {op : Op} (i : Nat) (hi : ops[i]? = some ⟨some d, op, ty, pos, af, none⟩) (hs : Step P κ op ty L [] v) (h : E P κ ops Q Hs late fuel (listed.setIfInBounds i true) ((d, v) :: L) H) (hsl : Region.noSelect ops = true := by kernel_rfl) (hfr : Region.free .any ops listed i = true := by kernel_rfl) (hr : (Region.ready .any ops listed).contains i = true := by kernel_rfl) (hn : Nat.blt d κ.n = true := by rfl) : E P κ ops Q Hs late (fuel + 1) listed L H := e_pure i hi hsl hfr hr hn hs h
theorem eU {op : Op} (i : Nat) {j t : Nat} {b : Bool} (hi : ops[i]? = some ⟨some d, op, ty, pos, af, some (j, b)⟩) (h : E P κ ops Q Hs late fuel (listed.setIfInBounds i true) ((d, undef) :: L) H) (hsl : Region.noSelect ops = true := by kernel_rfl) (hfr : Region.free .any ops listed i = true := by kernel_rfl) (hr : (Region.ready .any ops listed).contains i = true := by kernel_rfl) (hj : (ops[j]?).bind (·.dst) = some t := by exact rfl) (ht : look L t = some undef := by exact rfl) (hn : Nat.blt d κ.n = true := by exact rfl) : E P κ ops Q Hs late (fuel + 1) listed L H := e_skipU i hi hsl hfr hr hj ht hn h
theorem oU {j : Nat} {b : Bool} {t : Nat} (h : O P κ ops Q rest ((d, undef) :: L) H) (hj : (ops[j]?).bind (·.dst) = some t := by exact rfl) (ht : look L t = some undef := by exact rfl) (hn : Nat.blt d κ.n = true := by exact rfl) : O P κ ops Q (⟨some d, op, ty, pos, af, some (j, b)⟩ :: rest) L H := o_noU hj ht hn h
end
theorem xI {κ : Cx} {L : Loc} {H : Hp} {Q : Pst} {ι : Type} {I : ι → Prop} {Lf : ι → Loc} {Hf : ι → Hp} {m : ι → Nat} {i : ι} (j : ι) (hI : I j) (hm : m j < m i := by first | omega | (dsimp only; omega)) (hL : Sub L (Lf j) := by exact sbA) (hH : HSub H (Hf j) := by exact hzB) : X κ (Exit.then (Inv κ I Lf Hf m i) Q .normal) L H := x_then (x_inv j hI hm hL hH)
theorem gE {α : Type} {l : List α} {i : Nat} (h : i < l.length := by omega) : ∃ x, l[i]? = some x := ⟨_, List.getElem?_eq_getElem h⟩
section
variable {P : Program} {L : Loc} {H : Hp}
theorem xR {fn : Func} {w0 : World} {M : List Nat} {post : Value → Hp → Prop} {n t : Nat} {v : Value} (hr : fn.results = [ResultVar.tmp t].toArray) (h : look L t = some v) (hp : post v H) : X ⟨n, [], w0, M⟩ (bodyPost P fn (Post w0 M post) .ret) L H := x_ret hr (.tmp h .nil) hp
end
end Go.HL
namespace Go.Proofs.YtloepfcndglmmaaDoor
open Go.HL Go.Proofs
instance : Mixed Tryd.prog := ⟨by kernel_rfl⟩
instance g2 : TG Tryd.prog 2 true := ⟨by kernel_rfl⟩
instance u2 : TU Tryd.prog 2 ((Go.TypeDesc.int Go.IntKind.i64)) := ⟨Tryd.underlying2⟩
instance g3 : TG Tryd.prog 3 true := ⟨by kernel_rfl⟩
instance u3 : TU Tryd.prog 3 ((Go.TypeDesc.int Go.IntKind.i64)) := ⟨Tryd.underlying3⟩
instance g4 : TG Tryd.prog 4 true := ⟨by kernel_rfl⟩
instance u4 : TU Tryd.prog 4 (Go.TypeDesc.bool) := ⟨Tryd.underlying4⟩
instance g5 : TG Tryd.prog 5 true := ⟨by kernel_rfl⟩
instance u5 : TU Tryd.prog 5 ((Go.TypeDesc.int Go.IntKind.u8)) := ⟨Tryd.underlying5⟩
instance u9 : TU Tryd.prog 9 (Go.TypeDesc.string) := ⟨Tryd.underlying9⟩
instance g22 : TG Tryd.prog 22 true := ⟨by kernel_rfl⟩
instance u22 : TU Tryd.prog 22 ((Go.TypeDesc.slice 80)) := ⟨Tryd.underlying22⟩
instance g23 : TG Tryd.prog 23 true := ⟨by kernel_rfl⟩
instance u23 : TU Tryd.prog 23 ((Go.TypeDesc.slice 5)) := ⟨Tryd.underlying23⟩
instance g25 : TG Tryd.prog 25 false := ⟨by kernel_rfl⟩
instance s25 : TS Tryd.prog 25 [(22, 0), (23, 1), (3, 2), (2, 3)] := ts_of (by kernel_rfl)
instance g32 : TG Tryd.prog 32 true := ⟨by kernel_rfl⟩
instance u32 : TU Tryd.prog 32 ((Go.TypeDesc.slice 45)) := ⟨Tryd.underlying32⟩
instance g45 : TG Tryd.prog 45 false := ⟨by kernel_rfl⟩
instance e45 : EG Tryd.prog 45 := ⟨by kernel_rfl⟩
instance b45 : TB Tryd.prog 45 [(0, 1), (1, 1)] := ⟨by kernel_rfl⟩
instance tq45 : TQ Tryd.prog 45 [(3, 0), (3, 1)] := ⟨by kernel_rfl⟩
instance s45 : TS Tryd.prog 45 [(3, 0), (3, 1)] := ts_of (by kernel_rfl)
instance g52 : TG Tryd.prog 52 true := ⟨by kernel_rfl⟩
instance u52 : TU Tryd.prog 52 ((Go.TypeDesc.slice 23)) := ⟨Tryd.underlying52⟩
instance g53 : TG Tryd.prog 53 true := ⟨by kernel_rfl⟩
instance u53 : TU Tryd.prog 53 ((Go.TypeDesc.slice 97)) := ⟨Tryd.underlying53⟩
instance g54 : TG Tryd.prog 54 true := ⟨by kernel_rfl⟩
instance u54 : TU Tryd.prog 54 ((Go.TypeDesc.slice 87)) := ⟨Tryd.underlying54⟩
instance g55 : TG Tryd.prog 55 true := ⟨by kernel_rfl⟩
instance u55 : TU Tryd.prog 55 ((Go.TypeDesc.slice 151)) := ⟨Tryd.underlying55⟩
instance g56 : TG Tryd.prog 56 true := ⟨by kernel_rfl⟩
instance u56 : TU Tryd.prog 56 ((Go.TypeDesc.slice 153)) := ⟨Tryd.underlying56⟩
instance g57 : TG Tryd.prog 57 true := ⟨by kernel_rfl⟩
instance u57 : TU Tryd.prog 57 ((Go.TypeDesc.slice 32)) := ⟨Tryd.underlying57⟩
instance g58 : TG Tryd.prog 58 true := ⟨by kernel_rfl⟩
instance u58 : TU Tryd.prog 58 ((Go.TypeDesc.slice 156)) := ⟨Tryd.underlying58⟩
instance g59 : TG Tryd.prog 59 true := ⟨by kernel_rfl⟩
instance u59 : TU Tryd.prog 59 ((Go.TypeDesc.slice 159)) := ⟨Tryd.underlying59⟩
instance g60 : TG Tryd.prog 60 true := ⟨by kernel_rfl⟩
instance u60 : TU Tryd.prog 60 ((Go.TypeDesc.slice 22)) := ⟨Tryd.underlying60⟩
instance g61 : TG Tryd.prog 61 true := ⟨by kernel_rfl⟩
instance u61 : TU Tryd.prog 61 ((Go.TypeDesc.slice 81)) := ⟨Tryd.underlying61⟩
instance g62 : TG Tryd.prog 62 true := ⟨by kernel_rfl⟩
instance u62 : TU Tryd.prog 62 ((Go.TypeDesc.slice 160)) := ⟨Tryd.underlying62⟩
instance g63 : TG Tryd.prog 63 true := ⟨by kernel_rfl⟩
instance u63 : TU Tryd.prog 63 ((Go.TypeDesc.slice 163)) := ⟨Tryd.underlying63⟩
instance g64 : TG Tryd.prog 64 true := ⟨by kernel_rfl⟩
instance u64 : TU Tryd.prog 64 ((Go.TypeDesc.slice 166)) := ⟨Tryd.underlying64⟩
instance g65 : TG Tryd.prog 65 true := ⟨by kernel_rfl⟩
instance u65 : TU Tryd.prog 65 ((Go.TypeDesc.slice 52)) := ⟨Tryd.underlying65⟩
instance g66 : TG Tryd.prog 66 true := ⟨by kernel_rfl⟩
instance u66 : TU Tryd.prog 66 ((Go.TypeDesc.slice 53)) := ⟨Tryd.underlying66⟩
instance g67 : TG Tryd.prog 67 true := ⟨by kernel_rfl⟩
instance u67 : TU Tryd.prog 67 ((Go.TypeDesc.slice 57)) := ⟨Tryd.underlying67⟩
instance g68 : TG Tryd.prog 68 true := ⟨by kernel_rfl⟩
instance u68 : TU Tryd.prog 68 ((Go.TypeDesc.slice 170)) := ⟨Tryd.underlying68⟩
instance g69 : TG Tryd.prog 69 true := ⟨by kernel_rfl⟩
instance u69 : TU Tryd.prog 69 ((Go.TypeDesc.slice 173)) := ⟨Tryd.underlying69⟩
instance g70 : TG Tryd.prog 70 true := ⟨by kernel_rfl⟩
instance u70 : TU Tryd.prog 70 ((Go.TypeDesc.slice 176)) := ⟨Tryd.underlying70⟩
instance b72 : TB Tryd.prog 72 [(0, 1), (1, 1), (2, 1), (3, 1), (4, 1), (5, 1), (6, 1), (7, 1), (8, 1), (9, 1), (10, 1), (11, 1), (12, 1), (13, 1), (14, 1), (15, 1), (16, 1), (17, 1), (18, 1)] := ⟨by kernel_rfl⟩
instance s72 : TS Tryd.prog 72 [(52, 0), (53, 1), (54, 2), (55, 3), (56, 4), (57, 5), (58, 6), (59, 7), (60, 8), (61, 9), (62, 10), (63, 11), (64, 12), (65, 13), (66, 14), (67, 15), (68, 16), (69, 17), (70, 18)] := ts_of (by kernel_rfl)
instance g75 : TG Tryd.prog 75 true := ⟨by kernel_rfl⟩
instance u75 : TU Tryd.prog 75 ((Go.TypeDesc.int Go.IntKind.i8)) := ⟨Tryd.underlying75⟩
instance g76 : TG Tryd.prog 76 true := ⟨by kernel_rfl⟩
instance u76 : TU Tryd.prog 76 ((Go.TypeDesc.int Go.IntKind.u64)) := ⟨Tryd.underlying76⟩
instance g78 : TG Tryd.prog 78 false := ⟨by kernel_rfl⟩
instance e78 : EG Tryd.prog 78 := ⟨by kernel_rfl⟩
instance u78 : TU Tryd.prog 78 ((Go.TypeDesc.array 4 76)) := ⟨Tryd.underlying78⟩
instance g80 : TG Tryd.prog 80 false := ⟨by kernel_rfl⟩
instance e80 : EG Tryd.prog 80 := ⟨by kernel_rfl⟩
instance b80 : TB Tryd.prog 80 [(0, 1), (1, 4), (5, 1), (6, 1), (7, 1), (8, 1)] := ⟨by kernel_rfl⟩
instance tq80 : TQ Tryd.prog 80 [(75, 0), (78, 1), (3, 5), (3, 6), (3, 7), (3, 8)] := ⟨by kernel_rfl⟩
instance s80 : TS Tryd.prog 80 [(75, 0), (78, 1), (3, 5), (3, 6), (3, 7), (3, 8)] := ts_of (by kernel_rfl)
instance g87 : TG Tryd.prog 87 true := ⟨by kernel_rfl⟩
instance u87 : TU Tryd.prog 87 ((Go.TypeDesc.slice 4)) := ⟨Tryd.underlying87⟩
instance u90 : TU Tryd.prog 90 ((Go.TypeDesc.map 3 3)) := ⟨Tryd.underlying90⟩
instance g97 : TG Tryd.prog 97 true := ⟨by kernel_rfl⟩
instance u97 : TU Tryd.prog 97 ((Go.TypeDesc.slice 3)) := ⟨Tryd.underlying97⟩
instance g98 : TG Tryd.prog 98 true := ⟨by kernel_rfl⟩
instance u98 : TU Tryd.prog 98 ((Go.TypeDesc.slice 134)) := ⟨Tryd.underlying98⟩
instance g99 : TG Tryd.prog 99 true := ⟨by kernel_rfl⟩
instance u99 : TU Tryd.prog 99 ((Go.TypeDesc.map 134 3)) := ⟨Tryd.underlying99⟩
instance g100 : TG Tryd.prog 100 true := ⟨by kernel_rfl⟩
instance u100 : TU Tryd.prog 100 ((Go.TypeDesc.map 201 3)) := ⟨Tryd.underlying100⟩
instance g101 : TG Tryd.prog 101 true := ⟨by kernel_rfl⟩
instance u101 : TU Tryd.prog 101 ((Go.TypeDesc.map 187 4)) := ⟨Tryd.underlying101⟩
instance b103 : TB Tryd.prog 103 [(0, 1), (1, 1), (2, 1), (3, 1), (4, 1), (5, 1), (6, 1), (7, 1), (8, 1), (9, 1), (10, 1)] := ⟨by kernel_rfl⟩
instance s103 : TS Tryd.prog 103 [(22, 0), (23, 1), (97, 2), (97, 3), (98, 4), (99, 5), (100, 6), (101, 7), (32, 8), (2, 9), (4, 10)] := ts_of (by kernel_rfl)
instance b107 : TB Tryd.prog 107 [(0, 1), (1, 1), (2, 1)] := ⟨by kernel_rfl⟩
instance s107 : TS Tryd.prog 107 [(22, 0), (3, 1), (87, 2)] := ts_of (by kernel_rfl)
instance b132 : TB Tryd.prog 132 [(0, 1), (1, 1), (2, 1)] := ⟨by kernel_rfl⟩
instance s132 : TS Tryd.prog 132 [(22, 0), (3, 1), (87, 2)] := ts_of (by kernel_rfl)
instance g134 : TG Tryd.prog 134 false := ⟨by kernel_rfl⟩
instance b134 : TB Tryd.prog 134 [(0, 1), (1, 1), (2, 1), (3, 1), (4, 2)] := ⟨by kernel_rfl⟩
instance s134 : TS Tryd.prog 134 [(3, 0), (3, 1), (3, 2), (3, 3), (45, 4)] := ts_of (by kernel_rfl)
instance b144 : TB Tryd.prog 144 [(0, 1), (1, 1), (2, 1), (3, 1)] := ⟨by kernel_rfl⟩
instance s144 : TS Tryd.prog 144 [(22, 0), (3, 1), (97, 2), (3, 3)] := ts_of (by kernel_rfl)
instance g187 : TG Tryd.prog 187 false := ⟨by kernel_rfl⟩
instance b187 : TB Tryd.prog 187 [(0, 1), (1, 1), (2, 1)] := ⟨by kernel_rfl⟩
instance b192 : TB Tryd.prog 192 [(0, 1), (1, 1), (2, 1)] := ⟨by kernel_rfl⟩
instance s192 : TS Tryd.prog 192 [(22, 0), (23, 1), (97, 2)] := ts_of (by kernel_rfl)
instance g199 : TG Tryd.prog 199 false := ⟨by kernel_rfl⟩
instance u199 : TU Tryd.prog 199 ((Go.TypeDesc.array 4 45)) := ⟨Tryd.underlying199⟩
instance g201 : TG Tryd.prog 201 false := ⟨by kernel_rfl⟩
instance b201 : TB Tryd.prog 201 [(0, 1), (1, 8)] := ⟨by kernel_rfl⟩
instance s201 : TS Tryd.prog 201 [(3, 0), (199, 1)] := ts_of (by kernel_rfl)
instance i2 : TI Tryd.prog 2 1 8 := ti_of (by kernel_rfl)
instance i3 : TI Tryd.prog 3 1 8 := ti_of (by kernel_rfl)
instance i4 : TI Tryd.prog 4 1 1 := ti_of (by kernel_rfl)
instance i5 : TI Tryd.prog 5 1 1 := ti_of (by kernel_rfl)
instance i22 : TI Tryd.prog 22 1 24 := ti_of (by kernel_rfl)
instance i23 : TI Tryd.prog 23 1 24 := ti_of (by kernel_rfl)
instance i25 : TI Tryd.prog 25 4 64 := ti_of (by kernel_rfl)
instance i32 : TI Tryd.prog 32 1 24 := ti_of (by kernel_rfl)
instance i45 : TI Tryd.prog 45 2 16 := ti_of (by kernel_rfl)
instance i52 : TI Tryd.prog 52 1 24 := ti_of (by kernel_rfl)
instance i53 : TI Tryd.prog 53 1 24 := ti_of (by kernel_rfl)
instance i54 : TI Tryd.prog 54 1 24 := ti_of (by kernel_rfl)
instance i55 : TI Tryd.prog 55 1 24 := ti_of (by kernel_rfl)
instance i56 : TI Tryd.prog 56 1 24 := ti_of (by kernel_rfl)
instance i57 : TI Tryd.prog 57 1 24 := ti_of (by kernel_rfl)
instance i58 : TI Tryd.prog 58 1 24 := ti_of (by kernel_rfl)
instance i59 : TI Tryd.prog 59 1 24 := ti_of (by kernel_rfl)
instance i60 : TI Tryd.prog 60 1 24 := ti_of (by kernel_rfl)
instance i61 : TI Tryd.prog 61 1 24 := ti_of (by kernel_rfl)
instance i62 : TI Tryd.prog 62 1 24 := ti_of (by kernel_rfl)
instance i63 : TI Tryd.prog 63 1 24 := ti_of (by kernel_rfl)
instance i64 : TI Tryd.prog 64 1 24 := ti_of (by kernel_rfl)
instance i65 : TI Tryd.prog 65 1 24 := ti_of (by kernel_rfl)
instance i66 : TI Tryd.prog 66 1 24 := ti_of (by kernel_rfl)
instance i67 : TI Tryd.prog 67 1 24 := ti_of (by kernel_rfl)
instance i68 : TI Tryd.prog 68 1 24 := ti_of (by kernel_rfl)
instance i69 : TI Tryd.prog 69 1 24 := ti_of (by kernel_rfl)
instance i70 : TI Tryd.prog 70 1 24 := ti_of (by kernel_rfl)
instance i75 : TI Tryd.prog 75 1 1 := ti_of (by kernel_rfl)
instance i76 : TI Tryd.prog 76 1 8 := ti_of (by kernel_rfl)
instance i78 : TI Tryd.prog 78 4 32 := ti_of (by kernel_rfl)
instance i80 : TI Tryd.prog 80 9 72 := ti_of (by kernel_rfl)
instance i87 : TI Tryd.prog 87 1 24 := ti_of (by kernel_rfl)
instance i97 : TI Tryd.prog 97 1 24 := ti_of (by kernel_rfl)
instance i98 : TI Tryd.prog 98 1 24 := ti_of (by kernel_rfl)
instance i99 : TI Tryd.prog 99 1 8 := ti_of (by kernel_rfl)
instance i100 : TI Tryd.prog 100 1 8 := ti_of (by kernel_rfl)
instance i101 : TI Tryd.prog 101 1 8 := ti_of (by kernel_rfl)
instance i134 : TI Tryd.prog 134 6 48 := ti_of (by kernel_rfl)
instance i187 : TI Tryd.prog 187 3 24 := ti_of (by kernel_rfl)
instance i199 : TI Tryd.prog 199 8 64 := ti_of (by kernel_rfl)
instance i201 : TI Tryd.prog 201 9 72 := ti_of (by kernel_rfl)
instance z3 : TZ Tryd.prog 3 (.int .i64 0) := tz_of (by kernel_rfl)
instance z4 : TZ Tryd.prog 4 (.bool false) := tz_of (by kernel_rfl)
instance z5 : TZ Tryd.prog 5 (.int .u8 0) := tz_of (by kernel_rfl)
instance z22 : TZ Tryd.prog 22 (.slice none 0 0) := tz_of (by kernel_rfl)
instance z25 : TZ Tryd.prog 25 (.agg [.slice none 0 0, .slice none 0 0, .int .i64 0, .int .i64 0].toArray) := tz_of (by kernel_rfl)
instance z32 : TZ Tryd.prog 32 (.slice none 0 0) := tz_of (by kernel_rfl)
instance z45 : TZ Tryd.prog 45 (.agg [.int .i64 0, .int .i64 0].toArray) := tz_of (by kernel_rfl)
instance z72 : TZ Tryd.prog 72 (.agg (List.replicate 19 (.slice none 0 0)).toArray) := tz_of (by kernel_rfl)
instance z78 : TZ Tryd.prog 78 (.agg [.int .u64 0, .int .u64 0, .int .u64 0, .int .u64 0].toArray) := tz_of (by kernel_rfl)
instance z80 : TZ Tryd.prog 80 (.agg [.int .i8 0, .int .u64 0, .int .u64 0, .int .u64 0, .int .u64 0, .int .i64 0, .int .i64 0, .int .i64 0, .int .i64 0].toArray) := tz_of (by kernel_rfl)
instance z103 : TZ Tryd.prog 103 (.agg [.slice none 0 0, .slice none 0 0, .slice none 0 0, .slice none 0 0, .slice none 0 0, .map none, .map none, .map none, .slice none 0 0, .int .i64 0, .bool false].toArray) := tz_of (by kernel_rfl)
instance z107 : TZ Tryd.prog 107 (.agg [.slice none 0 0, .int .i64 0, .slice none 0 0].toArray) := tz_of (by kernel_rfl)
instance z132 : TZ Tryd.prog 132 (.agg [.slice none 0 0, .int .i64 0, .slice none 0 0].toArray) := tz_of (by kernel_rfl)
instance z134 : TZ Tryd.prog 134 (.agg [.int .i64 0, .int .i64 0, .int .i64 0, .int .i64 0, .int .i64 0, .int .i64 0].toArray) := tz_of (by kernel_rfl)
instance z144 : TZ Tryd.prog 144 (.agg [.slice none 0 0, .int .i64 0, .slice none 0 0, .int .i64 0].toArray) := tz_of (by kernel_rfl)
instance z187 : TZ Tryd.prog 187 (.agg [.int .i64 0, .int .i64 0, .int .i64 0].toArray) := tz_of (by kernel_rfl)
instance z192 : TZ Tryd.prog 192 (.agg [.slice none 0 0, .slice none 0 0, .slice none 0 0].toArray) := tz_of (by kernel_rfl)
instance z201 : TZ Tryd.prog 201 (.agg [.int .i64 0, .int .i64 0, .int .i64 0, .int .i64 0, .int .i64 0, .int .i64 0, .int .i64 0, .int .i64 0, .int .i64 0].toArray) := tz_of (by kernel_rfl)
end Go.Proofs.YtloepfcndglmmaaDoor
namespace Go.HL.Kl
open Go Go.HL
/-! classes: sets of bytes, as numbers of 256 bits -/
abbrev Cl := BitVec 256
def wd (c : Cl) (i : Nat) : BitVec 64 := c.extractLsb' (64 * i) 64
def Ew (w : BitVec 64) : Value := .int .u64 w.toNat
def Ec (c : Cl) : List Value := [Ew (wd c 0), Ew (wd c 1), Ew (wd c 2), Ew (wd c 3)]
instance : Enc Ec 4 := ⟨fun _ => rfl, fun c v hv => by simp [Ec, Ew] at hv; rcases hv with rfl | rfl | rfl | rfl <;> rfl⟩
theorem Ec_one (c : Cl) : ∀ v ∈ Ec c, v.oneCell' = true := Enc.one c
theorem Ec_get (c : Cl) {i : Nat} (h : i < 4) : (Ec c)[i]? = some (Ew (wd c i)) := by
  match i, h with
  | 0, _ => rfl
  | 1, _ => rfl
  | 2, _ => rfl
  | 3, _ => rfl
def setw (c : Cl) (i : Nat) (w : BitVec 64) : Cl := (c &&& ~~~ ((BitVec.allOnes 64).setWidth 256 <<< (64 * i))) ||| (w.setWidth 256 <<< (64 * i))
theorem setw_get (c : Cl) {i : Nat} (w : BitVec 64) (_hi : i < 4) {j : Nat} (hj : j < 256) : (setw c i w).getLsbD j = if 64 * i ≤ j ∧ j < 64 * i + 64 then w.getLsbD (j - 64 * i) else c.getLsbD j := by
  simp only [setw, BitVec.getLsbD_or, BitVec.getLsbD_and, BitVec.getLsbD_not, BitVec.getLsbD_shiftLeft, BitVec.getLsbD_setWidth, BitVec.getLsbD_allOnes, hj, decide_true, Bool.true_and]
  by_cases h1 : j < 64 * i
  · simp [h1]; omega
  · have h2 : 64 * i ≤ j := by omega
    by_cases h3 : j < 64 * i + 64
    · have h4 : j - 64 * i < 64 := by omega
      have h5 : j - 64 * i < 256 := by omega
      simp [h1, h2, h3, h4, h5]
    · have h4 : ¬ (j - 64 * i < 64) := by omega
      have h5 : w.getLsbD (j - 64 * i) = false := BitVec.getLsbD_of_ge _ _ (by omega)
      simp [h1, h3, h4, h5]
theorem wd_get (c : Cl) (i : Nat) {j : Nat} (hj : j < 64) : (wd c i).getLsbD j = c.getLsbD (64 * i + j) := by
  simp [wd, hj]
theorem wd_setw (c : Cl) {i k : Nat} (w : BitVec 64) (hi : i < 4) (hk : k < 4) : wd (setw c i w) k = if i = k then w else wd c k := by
  apply BitVec.eq_of_getLsbD_eq
  intro j hj
  rw [wd_get _ _ hj, setw_get _ _ hi (by omega)]
  by_cases e : i = k
  · subst e
    have : 64 * i + j - 64 * i = j := by omega
    rw [if_pos (by omega), if_pos rfl, this]
  · rw [if_neg (by omega), if_neg e, wd_get _ _ hj]
theorem Ec_set (c : Cl) {i : Nat} (w : BitVec 64) (hi : i < 4) : (Ec c).set i (Ew w) = Ec (setw c i w) := by
  simp only [Ec, wd_setw c w hi (by decide : 0 < 4), wd_setw c w hi (by decide : 1 < 4), wd_setw c w hi (by decide : 2 < 4), wd_setw c w hi (by decide : 3 < 4)]
  match i, hi with
  | 0, _ => rfl
  | 1, _ => rfl
  | 2, _ => rfl
  | 3, _ => rfl
theorem ext_wd {c d : Cl} (h : ∀ i, i < 4 → wd c i = wd d i) : c = d := by
  apply BitVec.eq_of_getLsbD_eq
  intro j hj
  have h1 := congrArg (fun w => BitVec.getLsbD w (j % 64)) (h (j / 64) (by omega))
  simp only [wd_get _ _ (show j % 64 < 64 by omega)] at h1
  have : 64 * (j / 64) + j % 64 = j := by omega
  rwa [this] at h1
theorem Ec_inj {c d : Cl} (h : Ec c = Ec d) : c = d := by
  simp only [Ec, Ew, List.cons.injEq, Value.int.injEq, true_and, and_true] at h
  obtain ⟨h0, h1, h2, h3⟩ := h
  refine ext_wd fun i hi => ?_
  match i, hi with
  | 0, _ => exact BitVec.eq_of_toNat_eq (by omega)
  | 1, _ => exact BitVec.eq_of_toNat_eq (by omega)
  | 2, _ => exact BitVec.eq_of_toNat_eq (by omega)
  | 3, _ => exact BitVec.eq_of_toNat_eq (by omega)
def Ic (c : Cl) : List Int := [((wd c 0).toNat : Int), ((wd c 1).toNat : Int), ((wd c 2).toNat : Int), ((wd c 3).toNat : Int)]
theorem Ec_ints (c : Cl) : Ec c = intsV .u64 (Ic c) := rfl
theorem Ic_inj {c d : Cl} : Ic c = Ic d ↔ c = d := ⟨fun h => Ec_inj (by rw [Ec_ints, Ec_ints, h]), fun h => by rw [h]⟩
/-! one byte -/
def bit (x : Nat) : Cl := 1#256 <<< x
theorem bit_get {x j : Nat} (hj : j < 256) : (bit x).getLsbD j = decide (j = x) := by
  simp only [bit, BitVec.getLsbD_shiftLeft, hj, decide_true, Bool.true_and, BitVec.getLsbD_one]
  by_cases h : j = x
  · subst h; simp
  · by_cases h2 : j < x
    · simp [h, h2]
    · have : ¬ (j - x = 0) := by omega
      simp [h, h2]; omega
theorem with_eq (c : Cl) {x : Nat} (hx : x < 256) : setw c (x / 64) (wd c (x / 64) ||| (1#64 <<< (x % 64))) = c ||| bit x := by
  apply BitVec.eq_of_getLsbD_eq
  intro j hj
  rw [setw_get _ _ (by omega) hj, BitVec.getLsbD_or (x := c), bit_get hj]
  by_cases h : 64 * (x / 64) ≤ j ∧ j < 64 * (x / 64) + 64
  · rw [if_pos h, BitVec.getLsbD_or, wd_get _ _ (by omega)]
    have e : 64 * (x / 64) + (j - 64 * (x / 64)) = j := by omega
    rw [e]
    congr 1
    simp only [BitVec.getLsbD_shiftLeft, BitVec.getLsbD_one]
    by_cases h2 : j = x
    · have h3 : j - 64 * (x / 64) = x % 64 := by omega
      simp [h2]; omega
    · have h3 : ¬ (j - 64 * (x / 64) = x % 64) := by omega
      by_cases h4 : j - 64 * (x / 64) < x % 64
      · simp [h2, h4]
      · have h5 : ¬ (j - 64 * (x / 64) - x % 64 = 0) := by omega
        simp [h2, h4]; omega
  · rw [if_neg h]
    have h2 : ¬ (j = x) := by omega
    simp [h2]
/-! the program's arithmetic on bytes and words -/
theorem wrap_u64 (n : Int) : IntKind.u64.wrap n = n % 18446744073709551616 := by simp [IntKind.wrap, IntKind.signed, IntKind.bits]
theorem wrap64 (w : BitVec 64) : IntKind.u64.wrap (w.toNat : Int) = w.toNat := by
  have := w.isLt
  rw [wrap_u64]; omega
theorem of64 (w : BitVec 64) : BitVec.ofInt IntKind.u64.bits (w.toNat : Int) = w := by
  apply BitVec.eq_of_toNat_eq
  have := w.isLt
  simp [IntKind.bits]
theorem v_and63 {x : Nat} (hx : x < 256) : IntKind.u8.wrap (BitVec.ofInt IntKind.u8.bits (x : Int) &&& BitVec.ofInt IntKind.u8.bits 63).toNat = ((x % 64 : Nat) : Int) := by
  have : ∀ x : Fin 256, IntKind.u8.wrap (BitVec.ofInt IntKind.u8.bits (x.val : Int) &&& BitVec.ofInt IntKind.u8.bits 63).toNat = ((x.val % 64 : Nat) : Int) := by decide +kernel
  exact this ⟨x, hx⟩
theorem v_shl1 {k : Nat} (hk : k < 64) : Value.int .u64 (IntKind.u64.wrap (1 * 2 ^ (min ((k : Nat) : Int).toNat IntKind.u64.bits))) = Ew (1#64 <<< k) := by
  have e : min ((k : Nat) : Int).toNat IntKind.u64.bits = k := by simp [IntKind.bits]; omega
  rw [e]
  have h1 : (2 : Nat) ^ k < 2 ^ 64 := Nat.pow_lt_pow_right (by decide) hk
  have h2 : ((2 : Int) ^ k) = ((2 ^ k : Nat) : Int) := by simp
  simp only [Ew, Value.int.injEq, true_and, Int.one_mul]
  rw [h2, wrap_u64]
  have h3 : (1#64 <<< k).toNat = 2 ^ k := by
    rw [BitVec.toNat_shiftLeft, BitVec.toNat_ofNat, Nat.shiftLeft_eq]
    simp
    exact h1
  rw [h3]; omega
theorem has_eq (w : BitVec 64) {k : Nat} (hk : k < 64) : decide (IntKind.u64.wrap (BitVec.ofInt IntKind.u64.bits ((w.toNat : Int).fdiv (2 ^ (min ((k : Nat) : Int).toNat IntKind.u64.bits))) &&& BitVec.ofInt IntKind.u64.bits 1).toNat = 1) = w.getLsbD k := by
  have e : min ((k : Nat) : Int).toNat IntKind.u64.bits = k := by simp [IntKind.bits]; omega
  rw [e]
  have h2 : ((2 : Int) ^ k) = ((2 ^ k : Nat) : Int) := by simp
  have h3 : (w.toNat : Int).fdiv (2 ^ k) = ((w >>> k).toNat : Int) := by
    rw [h2, Int.fdiv_eq_ediv_of_nonneg _ (Int.natCast_nonneg _), BitVec.toNat_ushiftRight, Nat.shiftRight_eq_div_pow]; rfl
  have h4 : BitVec.ofInt IntKind.u64.bits 1 = 1#64 := rfl
  rw [h3, of64, h4]
  have h6 : IntKind.u64.wrap ((w >>> k &&& 1#64).toNat : Int) = ((w >>> k &&& 1#64).toNat : Int) := wrap64 _
  refine (congrArg (fun z => decide (z = 1)) h6).trans ?_
  have h5 : (w >>> k &&& 1#64).toNat = if w.getLsbD k then 1 else 0 := by
    have := BitVec.and_one_eq_setWidth_ofBool_getLsbD (x := w >>> k)
    rw [this, BitVec.getLsbD_ushiftRight, Nat.add_zero]
    cases w.getLsbD k <;> rfl
  rw [h5]
  cases w.getLsbD k <;> simp
theorem shr6_u8 {x : Nat} (hx : x < 256) : ((x : Int)).fdiv (2 ^ (min (6 : Int).toNat IntKind.u8.bits)) = ((x / 64 : Nat) : Int) := by
  have : ∀ x : Fin 256, ((x.val : Int)).fdiv (2 ^ (min (6 : Int).toNat IntKind.u8.bits)) = ((x.val / 64 : Nat) : Int) := by decide +kernel
  exact this ⟨x, hx⟩
theorem quo64 {x : Nat} (hx : x < 256) : IntKind.u8.wrap ((x : Int).tdiv 64) = ((x / 64 : Nat) : Int) := by
  have : ∀ x : Fin 256, IntKind.u8.wrap ((x.val : Int).tdiv 64) = ((x.val / 64 : Nat) : Int) := by decide +kernel
  exact this ⟨x, hx⟩
theorem rem64 {x : Nat} (hx : x < 256) : (x : Int).tmod 64 = ((x % 64 : Nat) : Int) := by
  have : ∀ x : Fin 256, (x.val : Int).tmod 64 = ((x.val % 64 : Nat) : Int) := by decide +kernel
  exact this ⟨x, hx⟩
theorem wd_bit (c : Cl) {x : Nat} (_hx : x < 256) : (wd c (x / 64)).getLsbD (x % 64) = c.getLsbD x := by
  rw [wd_get _ _ (by omega)]
  congr 1; omega
theorem hasB (c : Cl) {x : Nat} (hx : x < 256) : decide (IntKind.u64.wrap (BitVec.ofInt IntKind.u64.bits (((wd c (x / 64)).toNat : Int).fdiv (2 ^ (min (((x % 64 : Nat) : Nat) : Int).toNat IntKind.u64.bits))) &&& BitVec.ofInt IntKind.u64.bits 1).toNat = 1) = c.getLsbD x := by
  rw [has_eq _ (by omega), wd_bit c hx]
theorem Ec_zero : Ec 0#256 = [.int .u64 0, .int .u64 0, .int .u64 0, .int .u64 0] := by simp [Ec, Ew, wd]
theorem Ic_len (c : Cl) : (Ic c).length = 4 := rfl
section
variable {P : Program} {κ : Cx} {L : Loc} {H : Hp} {ty t t' : TypeId} {x y : Operand}
theorem s_neq_cl {e b : Nat} {k' : IntKind} [TU P t (.array 4 e)] [TU P e (.int k')] [TG P e true] [TI P e 1 b] [EG P t] {c d : Cl} (hx : ev L x = some (.agg (Ec c).toArray)) (hy : ev L y = some (.agg (Ec d).toArray)) : Step P κ (.binOp .neq t x y t') ty L H (.bool (decide (c ≠ d))) :=
  step_cast (s_neq_arr (j := .u64) (xs := Ic c) (ys := Ic d) (by rw [← Ec_ints]; exact hx) (by rw [← Ec_ints]; exact hy) (Ic_len c) (Ic_len d)) (congrArg Value.bool (decide_eq_decide.2 (not_congr Ic_inj)))
end
/-! word by word -/
def mapW (f : Nat → BitVec 64 → BitVec 64) (c : Cl) : Nat → Cl
  | 0 => c
  | i + 1 => setw (mapW f c i) i (f i (wd (mapW f c i) i))
def Part (p : Nat → Bool) (i : Nat) (c : Cl) : Prop := ∀ j, j < 256 → c.getLsbD j = (decide (j < i) && p j)
def rngTo (lo : Nat) : Nat → Cl
  | 0 => 0
  | x + 1 => if lo ≤ x then rngTo lo x ||| bit x else 0
def rng (lo hi : Nat) : Cl := rngTo lo (hi + 1)
def ofL (l : List UInt8) : Cl := l.foldl (fun c b => c ||| bit b.toNat) 0
def sizeTo (c : Cl) (i : Nat) : Nat := (List.range i).countP c.getLsbD
def size (c : Cl) : Nat := sizeTo c 256
def memsTo (c : Cl) (i : Nat) : List Nat := (List.range i).filter c.getLsbD
def mems (c : Cl) : List Nat := memsTo c 256
def Eby (b : Nat) : List Value := [.int .u8 b]
instance : Enc Eby 1 := ⟨fun _ => rfl, fun _ _ h => by simp [Eby] at h; subst h; rfl⟩
end Go.HL.Kl
namespace Go.HL.Kl
open Go Go.HL
/-! OnesCount64: the sums of the lanes -/
def pk (k : Nat) : Nat → (Nat → Nat) → Nat
  | 0, _ => 0
  | n + 1, f => 2 ^ k * pk k n (fun i => f (i + 1)) + f 0
def bt (w : BitVec 64) (i : Nat) : Nat := if w.getLsbD i then 1 else 0
def popW (w : BitVec 64) : Nat := (List.range 64).countP w.getLsbD
def sums (f : Nat → Nat) (i : Nat) : Nat := f (2 * i) + f (2 * i + 1)
def oc1 (w : BitVec 64) : BitVec 64 := ((w >>> 1) &&& 6148914691236517205#64) + (w &&& 6148914691236517205#64)
def oc2 (w : BitVec 64) : BitVec 64 := ((w >>> 2) &&& 3689348814741910323#64) + (w &&& 3689348814741910323#64)
def oc3 (w : BitVec 64) : BitVec 64 := ((w >>> 4) + w) &&& 1085102592571150095#64
def oc4 (k : Nat) (w : BitVec 64) : BitVec 64 := w + (w >>> k)
def sm (f : Nat → Nat) : Nat → Nat
  | 0 => 0
  | n + 1 => sm f n + f n
/-! the size, word by word -/
def wmem (i : Nat) (w : BitVec 64) : List Nat := ((List.range 64).filter w.getLsbD).map fun j => 64 * i + j
def restW (c : Cl) (i : Nat) (w : BitVec 64) : List Nat := wmem i w ++ (mems c).drop (memsTo c (64 * i + 64)).length
end Go.HL.Kl
namespace Go.HL.Kl.Mc
open Go Go.HL Go.HL.Kl
structure Nd where
  op : Int
  set : Cl
  n : Int
  mn : Int
  mx : Int
  kids : Int
  deriving DecidableEq
def En (x : Nd) : List Value := .int .i8 x.op :: (Ec x.set ++ [.int .i64 x.n, .int .i64 x.mn, .int .i64 x.mx, .int .i64 x.kids])
instance : Enc En 9 := ⟨fun x => by simp [En, Enc.len], fun x v hv => by
  simp only [En, List.mem_cons, List.mem_append, List.not_mem_nil, or_false] at hv
  rcases hv with rfl | hv | rfl | rfl | rfl | rfl
  · rfl
  · exact Ec_one _ v hv
  all_goals rfl⟩
def flds (x : Nd) : Bool :=
  decide (1 ≤ x.op ∧ x.op ≤ 8) && (decide (x.op = 1) || decide (x.set = 0)) && (decide (x.op = 7 ∨ x.op = 8) || decide (x.n = 0)) &&
  (if x.op = 6 then decide (0 ≤ x.mn ∧ x.mn ≤ 255 ∧ (x.mx = -1 ∨ x.mn ≤ x.mx ∧ x.mx ≤ 255)) else decide (x.mn = 0 ∧ x.mx = 0))
def kidsOk (x : Nd) : Bool :=
  if x.op = 6 ∨ x.op = 7 then decide (x.kids = 1) else if x.op = 4 then decide (x.kids = 0 ∨ 2 ≤ x.kids) else if x.op = 5 then decide (2 ≤ x.kids) else decide (x.kids = 0)
def ndOk (x : Nd) : Bool := flds x && kidsOk x
inductive F
  | nil
  | nd (x : Nd) (ks r : F)
namespace F
def flat : F → List Nd
  | nil => []
  | nd x ks r => x :: (ks.flat ++ r.flat)
def num : F → Nat
  | nil => 0
  | nd _ _ r => r.num + 1
def size : F → Nat
  | nil => 0
  | nd _ ks r => ks.size + r.size + 1
def wf : F → Prop
  | nil => True
  | nd x ks r => ndOk x = true ∧ (ks.num : Int) = x.kids ∧ ks.wf ∧ r.wf
def depth : F → Nat
  | nil => 0
  | nd _ ks r => max (ks.depth + 1) r.depth
theorem flat_size : ∀ f : F, f.flat.length = f.size
  | nil => rfl
  | nd x ks r => by simp only [flat, List.length_cons, List.length_append, flat_size ks, flat_size r, size]
end F
end Go.HL.Kl.Mc
namespace Go.HL.Kl.Mc
open Go Go.HL Go.HL.Kl
def gate (x : Nd) (en : List Bool) (g : Nat) : Option (List Bool × Nat) :=
  if x.op = 8 then (if 1 ≤ x.n ∧ x.n ≤ en.length ∧ en[x.n.toNat - 1]? = some true then some (en, g) else none)
  else if x.op = 7 then (if x.n = en.length + 1 ∧ x.n ≤ 255 ∧ g < 64 then some (en ++ [false], g + 1) else none)
  else some (en, g)
def kidsN (step : Nat → List Bool → Option (Nat × List Bool)) : Nat → Nat → List Bool → Option (Nat × List Bool)
  | 0, i, en => some (i, en)
  | k + 1, i, en => match step i en with
    | none => none
    | some (i', en') => kidsN step k i' en'
def shN (re : List Nd) : Nat → Nat → List Bool → Nat → Option (Nat × List Bool)
  | 0, _, _, _ => none
  | f + 1, i, en, g => match re[i]? with
    | none => none
    | some x => if ndOk x = true then
        match gate x en g with
        | none => none
        | some (en1, g1) => match kidsN (fun i en => shN re f i en g1) x.kids.toNat (i + 1) en1 with
          | none => none
          | some (i2, en2) => some (i2, if x.op = 7 then en2.set (x.n.toNat - 1) true else en2)
      else none
theorem ndOk_kids {x : Nd} (h : ndOk x = true) : 0 ≤ x.kids := by
  simp only [ndOk, Bool.and_eq_true, kidsOk] at h
  have h := h.2
  split at h
  · simp at h; omega
  · split at h
    · simp at h; omega
    · split at h <;> simp at h <;> omega
structure TreeAt (re : List Nd) (d i i' : Nat) (x : Nd) (ks : F) : Prop where
  wf : (F.nd x ks .nil).wf
  flat : re.drop i = x :: (ks.flat ++ re.drop i')
  dep : ks.depth + 1 ≤ d
  len : i' = i + 1 + ks.size
  le : i' ≤ re.length
structure ForAt (re : List Nd) (d k i i' : Nat) (ks : F) : Prop where
  wf : ks.wf
  num : ks.num = k
  flat : re.drop i = ks.flat ++ re.drop i'
  dep : ks.depth ≤ d
  len : i' = i + ks.size
  le : i ≤ re.length → i' ≤ re.length
theorem kidsN_for {re : List Nd} {d : Nat} {step : Nat → List Bool → Option (Nat × List Bool)} (hs : ∀ i en i' en', step i en = some (i', en') → ∃ x ks, TreeAt re d i i' x ks) :
    ∀ k i en i' en', kidsN step k i en = some (i', en') → ∃ ks, ForAt re d k i i' ks := by
  intro k
  induction k with
  | zero =>
    intro i en i' en' h
    simp only [kidsN, Option.some.injEq, Prod.mk.injEq] at h
    obtain ⟨rfl, rfl⟩ := h
    exact ⟨.nil, trivial, rfl, rfl, Nat.zero_le _, rfl, id⟩
  | succ k ih =>
    intro i en i' en' h
    simp only [kidsN] at h
    split at h
    · cases h
    · rename_i j en1 hst
      obtain ⟨x, ks, ht⟩ := hs _ _ _ _ hst
      obtain ⟨r, hr⟩ := ih _ _ _ _ h
      refine ⟨.nd x ks r, ⟨ht.wf.1, ht.wf.2.1, ht.wf.2.2.1, hr.wf⟩, by simp [F.num, hr.num], by rw [ht.flat, hr.flat]; simp [F.flat], ?_, by rw [hr.len, ht.len]; simp only [F.size]; omega, fun _ => hr.le ht.le⟩
      simp only [F.depth]
      have := ht.dep; have := hr.dep
      omega
theorem shN_tree {re : List Nd} : ∀ f i en g i' en', shN re f i en g = some (i', en') → ∃ x ks, TreeAt re f i i' x ks := by
  intro f
  induction f with
  | zero => intro i en g i' en' h; cases h
  | succ f ih =>
    intro i en g i' en' h
    simp only [shN] at h
    split at h
    · cases h
    · rename_i x hx
      have hlt : i < re.length := (List.getElem?_eq_some_iff.1 hx).1
      split at h
      · rename_i hok
        split at h
        · cases h
        · rename_i en1 g1 hg
          split at h
          · cases h
          · rename_i i2 en2 hk
            simp only [Option.some.injEq, Prod.mk.injEq] at h
            obtain ⟨rfl, -⟩ := h
            obtain ⟨ks, hks⟩ := kidsN_for (fun i en i' en' h => ih i en g1 i' en' h) _ _ _ _ _ hk
            have h0 := ndOk_kids hok
            refine ⟨x, ks, ⟨hok, by rw [hks.num]; omega, hks.wf, trivial⟩, ?_, by have := hks.dep; omega, by rw [hks.len], hks.le hlt⟩
            rw [List.drop_eq_getElem_cons hlt, hks.flat]
            rw [List.getElem?_eq_getElem hlt] at hx
            simp at hx
            rw [hx]
      · cases h
def times (x : Nd) : Nat := if x.op = 6 then (if x.mx < 0 then x.mn.toNat + 1 else max x.mx.toNat 1) else 1
namespace F
def weight : F → Nat
  | nil => 0
  | nd x ks r => (1 + times x * ks.weight) + r.weight
end F
def cut (n : Nat) : Nat := min n 16385
theorem cut_add (a b : Nat) : cut (cut a + cut b) = cut (a + b) := by unfold cut; omega
theorem cut_mul {t a : Nat} (ht : 1 ≤ t) : cut (1 + t * cut a) = cut (1 + t * a) := by
  unfold cut
  rcases Nat.le_total a 16385 with h | h
  · rw [Nat.min_eq_left h]
  · rw [Nat.min_eq_right h]
    have h1 : 16385 ≤ t * 16385 := Nat.le_mul_of_pos_left _ ht
    have h2 : t * 16385 ≤ t * a := Nat.mul_le_mul_left _ h
    omega
theorem times_pos (x : Nd) : 1 ≤ times x := by
  unfold times
  split
  · split <;> omega
  · exact Nat.le_refl _
theorem times_le {x : Nd} (h : ndOk x = true) : times x ≤ 256 := by
  simp only [ndOk, flds, Bool.and_eq_true] at h
  have h := h.1.2
  unfold times
  split
  · rename_i h6
    rw [if_pos h6] at h
    simp at h
    split <;> omega
  · omega
structure Shp (re : List Nd) (x : Nd) (ks : F) : Prop where
  wf : (F.nd x ks .nil).wf
  flat : re = x :: ks.flat
  dep : ks.depth + 1 ≤ 260
  weight : (F.nd x ks .nil).weight ≤ 16384
open Classical in
noncomputable def shapedP (re : List Nd) : Bool := decide (∃ en, shN re 260 0 [] 0 = some (re.length, en)) && decide (∃ x ks, Shp re x ks)
end Go.HL.Kl.Mc
namespace Go.HL.Kl.Mc
open Go Go.HL Go.HL.Kl
def pow (D : Nat → Nat → Prop) : Nat → Nat → Nat → Prop
  | 0, p, q => p = q
  | k + 1, p, q => ∃ m, D p m ∧ pow D k m q
def rounds (x : Nd) (D : Nat → Nat → Prop) (p q : Nat) : Prop := ∃ k : Nat, x.mn ≤ (k : Int) ∧ (x.mx = -1 ∨ (k : Int) ≤ x.mx) ∧ pow D k p q
def der (w : List UInt8) : F → Bool → Nat → Nat → Prop
  | .nil, m, p, q => m = false ∧ p = q
  | .nd x ks r, m, p, q =>
    let one : Nat → Nat → Prop := fun p q =>
      if x.op = 1 then q = p + 1 ∧ ∃ b, w[p]? = some b ∧ x.set.getLsbD b.toNat = true
      else if x.op = 2 then p = 0 ∧ q = 0
      else if x.op = 3 then p = w.length ∧ q = p
      else if x.op = 5 then der w ks true p q
      else if x.op = 6 then rounds x (der w ks false) p q
      else der w ks false p q
    if m = true then one p q ∨ der w r true p q else ∃ t, one p t ∧ der w r false t q
structure In where
  op : Int
  set : Cl
  x : Int
  y : Int
  deriving DecidableEq
def Ein (i : In) : List Value := .int .i8 i.op :: (Ec i.set ++ [.int .i64 i.x, .int .i64 i.y])
instance : Enc Ein 7 := ⟨fun x => by simp [Ein, Enc.len], fun x v hv => by
  simp only [Ein, List.mem_cons, List.mem_append, List.not_mem_nil, or_false] at hv
  rcases hv with rfl | hv | rfl | rfl
  · rfl
  · exact Ec_one _ v hv
  all_goals rfl⟩
def lenOne (x : Nd) (cat alt : Nat) : Nat :=
  if x.op = 1 ∨ x.op = 2 ∨ x.op = 3 then 1 else if x.op = 5 then alt
  else if x.op = 6 then x.mn.toNat * cat + (if x.mx = -1 then cat + 2 else (x.mx - x.mn).toNat * (cat + 1)) else cat
def lenM : F → Bool → Nat
  | .nil, _ => 0
  | .nd x ks r, m => lenOne x (lenM ks false) (lenM ks true) + (if m = true then (match r with | .nil => 0 | _ => 2) else 0) + lenM r m
def copies (c : Nat → List In) (L : Nat) : Nat → Nat → List In
  | 0, _ => []
  | k + 1, b => c b ++ copies c L k (b + L)
def opts (c : Nat → List In) (L e : Nat) : Nat → Nat → List In
  | 0, _ => []
  | k + 1, b => ⟨5, 0, (b + 1 : Nat), e⟩ :: (c (b + 1) ++ opts c L e k (b + 1 + L))
def repC (x : Nd) (c : Nat → List In) (L b : Nat) : List In :=
  copies c L x.mn.toNat b ++
    (let b1 := b + x.mn.toNat * L
     if x.mx = -1 then ⟨5, 0, (b1 + 1 : Nat), (b1 + L + 2 : Nat)⟩ :: (c (b1 + 1) ++ [⟨4, 0, (b1 : Nat), 0⟩])
     else opts c L (b1 + (x.mx - x.mn).toNat * (L + 1)) (x.mx - x.mn).toNat b1)
def oneC (x : Nd) (c a : Nat → List In) (L b : Nat) : List In :=
  if x.op = 1 then [⟨1, x.set, 0, 0⟩] else if x.op = 2 then [⟨2, 0, 0, 0⟩] else if x.op = 3 then [⟨3, 0, 0, 0⟩]
  else if x.op = 5 then a b else if x.op = 6 then repC x c L b else c b
def code : F → Bool → Nat → Nat → List In
  | .nil, _, _, _ => []
  | .nd x ks r, m, b, e =>
    let one : Nat → List In := oneC x (fun b => code ks false b 0) (fun b => code ks true b (b + lenM ks true)) (lenM ks false)
    let L := lenOne x (lenM ks false) (lenM ks true)
    if m = true then (match r with
      | .nil => one b
      | _ => ⟨5, 0, (b + 1 : Nat), (b + L + 2 : Nat)⟩ :: (one (b + 1) ++ (⟨4, 0, e, 0⟩ :: code r true (b + L + 2) e)))
    else one b ++ code r false (b + L) 0
inductive Stp (m : List In) (w : List UInt8) : Nat × Nat → Nat × Nat → Prop
  | set {i p : Nat} {t : In} {b : UInt8} (h : m[i]? = some t) (ho : t.op = 1) (hb : w[p]? = some b) (hs : t.set.getLsbD b.toNat = true) : Stp m w (i, p) (i + 1, p + 1)
  | bol {i : Nat} {t : In} (h : m[i]? = some t) (ho : t.op = 2) : Stp m w (i, 0) (i + 1, 0)
  | eol {i : Nat} {t : In} (h : m[i]? = some t) (ho : t.op = 3) : Stp m w (i, w.length) (i + 1, w.length)
  | jmp {i p j : Nat} {t : In} (h : m[i]? = some t) (ho : t.op = 4) (hx : t.x = (j : Int)) : Stp m w (i, p) (j, p)
  | spx {i p j : Nat} {t : In} (h : m[i]? = some t) (ho : t.op = 5) (hx : t.x = (j : Int)) : Stp m w (i, p) (j, p)
  | spy {i p j : Nat} {t : In} (h : m[i]? = some t) (ho : t.op = 5) (hy : t.y = (j : Int)) : Stp m w (i, p) (j, p)
inductive RunN (m : List In) (w : List UInt8) : Nat → Nat × Nat → Nat × Nat → Prop
  | zero {c : Nat × Nat} : RunN m w 0 c c
  | step {n : Nat} {c c' c'' : Nat × Nat} (h : Stp m w c c') (hr : RunN m w n c' c'') : RunN m w (n + 1) c c''
def Run (m : List In) (w : List UInt8) (c c' : Nat × Nat) : Prop := ∃ n, RunN m w n c c'
variable {m : List In} {w : List UInt8}
def At (m : List In) (b : Nat) (c : List In) : Prop := ∀ i t, c[i]? = some t → m[b + i]? = some t
structure Means (m : List In) (w : List UInt8) (b e : Nat) (D : Nat → Nat → Prop) : Prop where
  le : b ≤ e
  run : ∀ p q, D p q → Run m w (b, p) (e, q)
  out : ∀ n p c q, RunN m w n (b, p) (c, q) → ¬ (b ≤ c ∧ c < e) → ∃ k q', k ≤ n ∧ D p q' ∧ RunN m w k (e, q') (c, q)
theorem rep_flds {x : Nd} (h : ndOk x = true) (h6 : x.op = 6) : 0 ≤ x.mn ∧ x.mn ≤ 255 ∧ (x.mx = -1 ∨ x.mn ≤ x.mx ∧ x.mx ≤ 255) := by
  simp only [ndOk, flds, Bool.and_eq_true] at h
  have h := h.1.2
  rw [if_pos h6] at h
  simpa using h
end Go.HL.Kl.Mc
namespace Go.HL.Kl.Mc
open Go Go.HL Go.HL.Kl
variable {m : List In} {w : List UInt8}
def Eps (m : List In) (n p i j : Nat) : Prop := ∃ t, m[i]? = some t ∧ ((t.op = 2 ∧ p = 0 ∧ j = i + 1) ∨ (t.op = 3 ∧ p = n ∧ j = i + 1) ∨ (t.op = 4 ∧ t.x = (j : Int)) ∨ (t.op = 5 ∧ (t.x = (j : Int) ∨ t.y = (j : Int))))
inductive EpsS (m : List In) (n p : Nat) : Nat → Nat → Prop
  | refl {i : Nat} : EpsS m n p i i
  | head {i j k : Nat} (h : Eps m n p i j) (hs : EpsS m n p j k) : EpsS m n p i k
def Eat (m : List In) (w : List UInt8) (i p : Nat) : Prop := ∃ t b, m[i]? = some t ∧ t.op = 1 ∧ w[p]? = some b ∧ t.set.getLsbD b.toNat = true
def Hit (m : List In) (w : List UInt8) (f p : Nat) : Prop := ∃ i t, Run m w (0, f) (i, p) ∧ m[i]? = some t ∧ t.op = 6
def InOk (E : Nat) (t : In) : Prop := (1 ≤ t.op ∧ t.op ≤ 6) ∧ (t.op = 1 ∨ t.set = 0) ∧ (0 ≤ t.x ∧ t.x ≤ (if t.op = 4 ∨ t.op = 5 then (E : Int) else 0)) ∧ (0 ≤ t.y ∧ t.y ≤ (if t.op = 5 then (E : Int) else 0))
instance (E : Nat) (t : In) : Decidable (InOk E t) := by unfold InOk; infer_instance
def MOk (m : List In) : Prop := 1 ≤ m.length ∧ m.length ≤ 65540 ∧ ∀ i t, m[i]? = some t → InOk (m.length - 1) t ∧ (t.op ≤ 3 → i + 1 < m.length)
def CodeOk (E : Nat) (c : List In) : Prop := ∀ t ∈ c, InOk E t ∧ t.op ≤ 5
def mach (f : F) : List In := code f false 0 0 ++ [⟨6, 0, 0, 0⟩]
end Go.HL.Kl.Mc
namespace Go.HL.Kl.Mc
open Go Go.HL Go.HL.Kl
structure IsS (l : List Bool) (N : Nat) (S : Nat → Prop) : Prop where
  len : l.length = N + 1
  get : ∀ p, p ≤ N → (l[p]? = some true ↔ S p)
def img (D : Nat → Nat → Prop) (S : Nat → Prop) (q : Nat) : Prop := ∃ p, S p ∧ D p q
def Inn (N : Nat) (D : Nat → Nat → Prop) : Prop := ∀ p q, p ≤ N → D p q → q ≤ N
def der1 (w : List UInt8) (x : Nd) (ks : F) (p q : Nat) : Prop := der w (.nd x ks .nil) false p q
def upTo (D : Nat → Nat → Prop) (S : Nat → Prop) (mn k q : Nat) : Prop := ∃ j, mn ≤ j ∧ j ≤ k ∧ img (pow D j) S q
end Go.HL.Kl.Mc
