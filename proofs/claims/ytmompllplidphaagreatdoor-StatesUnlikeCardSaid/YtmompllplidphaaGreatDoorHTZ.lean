/- Steps of a drawn region, their side conditions found. Conditions: none. -/
import Derived.Test.YtmompllplidphaaGreatDoorHlB
import Derived.Lib.TrailingZeros
namespace Go.HL
open Go
/-- e_take, its side conditions found -/
theorem e_tk {P : Program} {κ : Cx} {ops : Array Oper} {Q : Pst} {late : Nat → Bool} {L : Loc} {H : Hp} {op : Op} {d : Nat} {ty : TypeId} {pos : String} {af : Array Edge} {v : Value} (i : Nat) {fuel : Nat} {listed : Array Bool} {Hs : Hp} {g : Option (Nat × Bool)} (hi : ops[i]? = some ⟨some d, op, ty, pos, af, g⟩) (hS : HSub H Hs) (hs : Step P κ op ty L Hs v) (h : E P κ ops Q Hs late fuel (listed.setIfInBounds i true) ((d, v) :: L) H) (hsl : Region.noSelect ops = true := by kernel_rfl) (hfr : Region.free .any ops listed i = true := by kernel_rfl) (hr : (Region.ready .any ops listed).contains i = true := by kernel_rfl)
    (hlt : lateB ops late i = true := by kernel_rfl) (hg : ∀ a : Act, Fr a κ.n κ.ds L → Region.wanted ⟨some d, op, ty, pos, af, g⟩ (yielded ops a.tmps) = true := by exact fun _ _ => rfl) (hn : Nat.blt d κ.n = true := by rfl) : E P κ ops Q Hs late (fuel + 1) listed L H := e_take i hi hsl hfr hr hlt hg hn hS hs h
theorem e_tg {P : Program} {κ : Cx} {ops : Array Oper} {Q : Pst} {late : Nat → Bool} {L : Loc} {H : Hp} {op : Op} {d : Nat} {ty : TypeId} {pos : String} {af : Array Edge} {v : Value} (i : Nat) {fuel : Nat} {listed : Array Bool} {Hs : Hp} {g : Option (Nat × Bool)} (hi : ops[i]? = some ⟨some d, op, ty, pos, af, g⟩) (hS : HSub H Hs) (hs : Step P κ op ty L Hs v) (h : E P κ ops Q Hs late fuel (listed.setIfInBounds i true) ((d, v) :: L) H) (hsl : Region.noSelect ops = true := by kernel_rfl) (hfr : Region.free .any ops listed i = true := by kernel_rfl) (hr : (Region.ready .any ops listed).contains i = true := by kernel_rfl)
    (hlt : lateB ops late i = true := by kernel_rfl) (hg : ∀ a : Act, Fr a κ.n κ.ds L → Region.wanted ⟨some d, op, ty, pos, af, g⟩ (yielded ops a.tmps) = true := by exact fun _ fr => by rw [wanted_of fr rfl rfl rfl]; rfl) (hn : Nat.blt d κ.n = true := by rfl) : E P κ ops Q Hs late (fuel + 1) listed L H := e_take i hi hsl hfr hr hlt hg hn hS hs h
theorem e_pr {P : Program} {κ : Cx} {ops : Array Oper} {Q : Pst} {late : Nat → Bool} {L : Loc} {H : Hp} {op : Op} {d : Nat} {ty : TypeId} {pos : String} {af : Array Edge} {v : Value} (i : Nat) {fuel : Nat} {listed : Array Bool} {Hs : Hp} (hi : ops[i]? = some ⟨some d, op, ty, pos, af, none⟩) (hs : Step P κ op ty L [] v) (h : E P κ ops Q Hs late fuel (listed.setIfInBounds i true) ((d, v) :: L) H) (hsl : Region.noSelect ops = true := by kernel_rfl) (hfr : Region.free .any ops listed i = true := by kernel_rfl) (hr : (Region.ready .any ops listed).contains i = true := by kernel_rfl) (hn : Nat.blt d κ.n = true := by rfl) : E P κ ops Q Hs late (fuel + 1) listed L H := e_pure i hi hsl hfr hr hn hs h
theorem e_sk {P : Program} {κ : Cx} {ops : Array Oper} {Q : Pst} {late : Nat → Bool} {L : Loc} {H : Hp} {op : Op} {d : Nat} {ty : TypeId} {pos : String} {af : Array Edge} (i : Nat) {fuel : Nat} {listed : Array Bool} {Hs : Hp} {j t : Nat} {b c : Bool} (hi : ops[i]? = some ⟨some d, op, ty, pos, af, some (j, b)⟩) (h : E P κ ops Q Hs late fuel (listed.setIfInBounds i true) ((d, undef) :: L) H) (hsl : Region.noSelect ops = true := by kernel_rfl) (hfr : Region.free .any ops listed i = true := by kernel_rfl) (hr : (Region.ready .any ops listed).contains i = true := by kernel_rfl) (hj : (ops[j]?).bind (·.dst) = some t := by rfl) (ht : look L t = some (.bool c) := by rfl) (hne : (c == b) = false := by rfl) (hn : Nat.blt d κ.n = true := by rfl) : E P κ ops Q Hs late (fuel + 1) listed L H := e_skip i hi hsl hfr hr hj ht hne hn h
section
variable {P : Program} {κ : Cx} {Q : Pst} {L : Loc} {H : Hp} {ops : Array Oper} {rest : List Oper} {d : Nat} {ty t t' : TypeId} {pos : String} {af : Array Edge} {op : Op} {x y z : Operand} {u v : Value} {k : IntKind} {a b : Int}
theorem oS (hs : Step P κ op ty L H v) (h : O P κ ops Q rest ((d, v) :: L) H) (hn : Nat.blt d κ.n = true := by exact rfl) : O P κ ops Q (⟨some d, op, ty, pos, af, none⟩ :: rest) L H := o_step hn hs h
theorem sM (hx : ev L x = some v := by exact rfl) : Step P κ (.move x) ty L H v := s_move hx
theorem sA (hx : ev L x = some v := by exact rfl) : Step P κ (.assign x) ty L H v := s_assign hx
theorem oM (h : O P κ ops Q rest ((d, v) :: L) H) (hx : ev L x = some v := by exact rfl) (hn : Nat.blt d κ.n = true := by exact rfl) : O P κ ops Q (⟨some d, .move x, ty, pos, af, none⟩ :: rest) L H := o_step hn (s_move hx) h
theorem oA (h : O P κ ops Q rest ((d, v) :: L) H) (hx : ev L x = some v := by exact rfl) (hn : Nat.blt d κ.n = true := by exact rfl) : O P κ ops Q (⟨some d, .assign x, ty, pos, af, none⟩ :: rest) L H := o_step hn (s_assign hx) h
theorem sF {b off f ft fo : Nat} {fs : List (Nat × Nat)} [ts : TS P t fs] (hx : ev L x = some (.pointer (some ⟨b, off, none⟩)) := by exact rfl) (hf : fs[f]? = some (ft, fo) := by exact rfl) (ti : ∃ s by', TI P ft s by' ∧ s ≠ 0 := by exact ⟨_, _, inferInstance, by decide⟩) : Step P κ (.fieldAddr t x f) ty L H (.pointer (some ⟨b, off + fo, none⟩)) := by
  obtain ⟨s, by', h1, h2⟩ := ti
  exact s_field hx hf h2
theorem sL {b off : Nat} [h : TG P t true] (hx : ev L x = some (.pointer (some ⟨b, off, none⟩)) := by exact rfl) (hc : Cel κ H ⟨b, off, none⟩ v := by exact .own meA rfl) : Step P κ (.load t x) ty L H v := s_ld hx hc
theorem sN {a : Addr} (hx : ev L x = some (.pointer (some a)) := by exact rfl) : Step P κ (.nilCheck x) ty L H (.pointer (some a)) := s_nil hx
theorem sE {vs : Array Value} {i : Nat} (hx : ev L x = some (.tuple vs) := by exact rfl) (hv : vs[i]? = some v := by exact rfl) : Step P κ (.extract x i) ty L H v := s_extract hx hv
theorem sC {e : TypeId} {a : Option Addr} {n c : Nat} [TU P t (.slice e)] (hx : ev L x = some (.slice a n c) := by exact rfl) : Step P κ (.call ⟨.builtin .len, #[x], #[t]⟩) ty L H (.int .i64 n) := s_len hx
theorem sT (hz : ev L z = some (.bool true) := by exact rfl) (hx : ev L x = some u := by exact rfl) : Step P κ (.pick z x y) ty L H u := s_pick_t hz hx
theorem sP (hz : ev L z = some (.bool false) := by exact rfl) (hy : ev L y = some v := by exact rfl) : Step P κ (.pick z x y) ty L H v := s_pick_f hz hy
theorem sD (hx : ev L x = some (.int .i64 a) := by exact rfl) (hy : ev L y = some (.int .i64 b) := by exact rfl) (h : -9223372036854775808 ≤ a + b ∧ a + b ≤ 9223372036854775807 := by omega) : Step P κ (.binOp .add t x y t') ty L H (.int .i64 (a + b)) := s_add hx hy h
theorem sU (hx : ev L x = some (.int .i64 a) := by exact rfl) (hy : ev L y = some (.int .i64 b) := by exact rfl) (h : -9223372036854775808 ≤ a - b ∧ a - b ≤ 9223372036854775807 := by omega) : Step P κ (.binOp .sub t x y t') ty L H (.int .i64 (a - b)) := s_sub hx hy h
theorem lsT (hx : ev L x = some (.int k a) := by exact rfl) (hy : ev L y = some (.int k b) := by exact rfl) (h : a < b := by omega) : Step P κ (.binOp .lss t x y t') ty L H (.bool true) := step_cast (s_lss hx hy) (by rw [decide_eq_true h])
theorem lsF (hx : ev L x = some (.int k a) := by exact rfl) (hy : ev L y = some (.int k b) := by exact rfl) (h : ¬ a < b := by omega) : Step P κ (.binOp .lss t x y t') ty L H (.bool false) := step_cast (s_lss hx hy) (by rw [decide_eq_false h])
theorem leT (hx : ev L x = some (.int k a) := by exact rfl) (hy : ev L y = some (.int k b) := by exact rfl) (h : a ≤ b := by omega) : Step P κ (.binOp .leq t x y t') ty L H (.bool true) := step_cast (s_leq hx hy) (by rw [decide_eq_true h])
theorem leF (hx : ev L x = some (.int k a) := by exact rfl) (hy : ev L y = some (.int k b) := by exact rfl) (h : ¬ a ≤ b := by omega) : Step P κ (.binOp .leq t x y t') ty L H (.bool false) := step_cast (s_leq hx hy) (by rw [decide_eq_false h])
theorem gtT (hx : ev L x = some (.int k a) := by exact rfl) (hy : ev L y = some (.int k b) := by exact rfl) (h : b < a := by omega) : Step P κ (.binOp .gtr t x y t') ty L H (.bool true) := step_cast (s_gtr hx hy) (by rw [decide_eq_true h])
theorem gtF (hx : ev L x = some (.int k a) := by exact rfl) (hy : ev L y = some (.int k b) := by exact rfl) (h : ¬ b < a := by omega) : Step P κ (.binOp .gtr t x y t') ty L H (.bool false) := step_cast (s_gtr hx hy) (by rw [decide_eq_false h])
theorem geT (hx : ev L x = some (.int k a) := by exact rfl) (hy : ev L y = some (.int k b) := by exact rfl) (h : b ≤ a := by omega) : Step P κ (.binOp .geq t x y t') ty L H (.bool true) := step_cast (s_geq hx hy) (by rw [decide_eq_true h])
theorem geF (hx : ev L x = some (.int k a) := by exact rfl) (hy : ev L y = some (.int k b) := by exact rfl) (h : ¬ b ≤ a := by omega) : Step P κ (.binOp .geq t x y t') ty L H (.bool false) := step_cast (s_geq hx hy) (by rw [decide_eq_false h])
theorem eqT (hx : ev L x = some (.int k a) := by exact rfl) (hy : ev L y = some (.int k b) := by exact rfl) (h : a = b := by omega) : Step P κ (.binOp .eql t x y t') ty L H (.bool true) := step_cast (s_eql hx hy) (by rw [decide_eq_true h])
theorem eqF (hx : ev L x = some (.int k a) := by exact rfl) (hy : ev L y = some (.int k b) := by exact rfl) (h : ¬ a = b := by omega) : Step P κ (.binOp .eql t x y t') ty L H (.bool false) := step_cast (s_eql hx hy) (by rw [decide_eq_false h])
theorem nqT (hx : ev L x = some (.int k a) := by exact rfl) (hy : ev L y = some (.int k b) := by exact rfl) (h : a ≠ b := by omega) : Step P κ (.binOp .neq t x y t') ty L H (.bool true) := step_cast (s_neq hx hy) (by rw [decide_eq_true h])
theorem nqF (hx : ev L x = some (.int k a) := by exact rfl) (hy : ev L y = some (.int k b) := by exact rfl) (h : ¬ a ≠ b := by omega) : Step P κ (.binOp .neq t x y t') ty L H (.bool false) := step_cast (s_neq hx hy) (by rw [decide_eq_false h])
theorem oN {j : Nat} {b c : Bool} {t : Nat} (h : O P κ ops Q rest ((d, undef) :: L) H) (hj : (ops[j]?).bind (·.dst) = some t := by exact rfl) (ht : look L t = some (.bool c) := by exact rfl) (hne : (c == b) = false := by exact rfl) (hn : Nat.blt d κ.n = true := by exact rfl) : O P κ ops Q (⟨some d, op, ty, pos, af, some (j, b)⟩ :: rest) L H := o_no hj ht hne hn h
theorem oY {j : Nat} {b : Bool} {t : Nat} {o : Option Tmp} (h : O P κ ops Q (⟨o, op, ty, pos, af, none⟩ :: rest) L H) (hj : (ops[j]?).bind (·.dst) = some t := by exact rfl) (ht : look L t = some (.bool b) := by exact rfl) : O P κ ops Q (⟨o, op, ty, pos, af, some (j, b)⟩ :: rest) L H := o_yes hj ht h
theorem cR {id : Nat} {l : List Oper} {y : Code} (h : ∀ K : Act → World → Prop, (∀ L H, C P κ Q y L H → X κ K L H) → O P κ l.toArray (Exit.then K Q) l L H) : C P κ Q (.seq (.region id l.toArray false) y) L H := c_seq fun K hK => c_region (h K hK)
theorem oZ {K : Act → World → Prop} {y : Code} {Q' : Pst} (hK : ∀ L H, C P κ Q' y L H → X κ K L H) (h : C P κ Q' y L H) : O P κ ops (Exit.then K Q) [] L H := o_nil (x_then (hK _ _ h))
theorem xZ {K : Act → World → Prop} {y : Code} {Q' : Pst} (hK : ∀ L H, C P κ Q' y L H → X κ K L H) (h : C P κ Q' y L H) : X κ (Exit.then K Q .normal) L H := x_then (hK _ _ h)
theorem cF {c : Operand} {x y : Code} (h : C P κ Q y L H) (hc : ev L c = some (.bool false) := by exact rfl) : C P κ Q (.cond c x y) L H := c_false hc h
theorem cT {c : Operand} {x y : Code} (h : C P κ Q x L H) (hc : ev L c = some (.bool true) := by exact rfl) : C P κ Q (.cond c x y) L H := c_true hc h
theorem cFZ {c : Operand} {x y : Code} {K : Act → World → Prop} {Q' : Pst} (hK : ∀ L H, C P κ Q' y L H → X κ K L H) (h : C P κ Q' y L H) (hc : ev L c = some (.bool false) := by exact rfl) : C P κ (Exit.then K Q) (.cond c x .skip) L H := c_false hc (c_skip (x_then (hK _ _ h)))
theorem cTZ {c : Operand} {x y : Code} {K : Act → World → Prop} {Q' : Pst} (hK : ∀ L H, C P κ Q' y L H → X κ K L H) (h : C P κ Q' y L H) (hc : ev L c = some (.bool true) := by exact rfl) : C P κ (Exit.then K Q) (.cond c .skip x) L H := c_true hc (c_skip (x_then (hK _ _ h)))
variable {late : Nat → Bool} {fuel : Nat} {listed : Array Bool} {Hs : Hp}
theorem eZ {K : Act → World → Prop} {y : Code} {Q' : Pst} (hK : ∀ L H, C P κ Q' y L H → X κ K L H) (h : C P κ Q' y L H) (hr : Region.ready .any ops listed = [] := by kernel_rfl) : E P κ ops (Exit.then K Q) Hs late fuel listed L H := e_done hr (x_then (hK _ _ h))
theorem eO (i : Nat) {o : Oper} (hi : ops[i]? = some o) (h : O P κ ops (OneE P κ ops Q Hs late fuel listed i) [o] L H) (hr : Region.ready .any ops listed = [i] := by kernel_rfl) : E P κ ops Q Hs late (fuel + 1) listed L H := e_one i hi hr h
theorem oX {i : Nat} (h : E P κ ops Q Hs late fuel (listed.setIfInBounds i true) L H) (hS : HSub H Hs := by exact hzB) : O P κ ops (OneE P κ ops Q Hs late fuel listed i) [] L H := o_nil (x_oneS hS h)
theorem eK {op : Op} {g : Option (Nat × Bool)} (i : Nat) (hi : ops[i]? = some ⟨some d, op, ty, pos, af, g⟩) (hs : Step P κ op ty L Hs v) (h : E P κ ops Q Hs late fuel (listed.setIfInBounds i true) ((d, v) :: L) H) (hS : HSub H Hs := by exact hzB) (hsl : Region.noSelect ops = true := by kernel_rfl) (hfr : Region.free .any ops listed i = true := by kernel_rfl) (hr : (Region.ready .any ops listed).contains i = true := by kernel_rfl)
    (hlt : lateB ops late i = true := by kernel_rfl) (hg : ∀ a : Act, Fr a κ.n κ.ds L → Region.wanted ⟨some d, op, ty, pos, af, g⟩ (yielded ops a.tmps) = true := by exact fun _ _ => rfl) (hn : Nat.blt d κ.n = true := by rfl) : E P κ ops Q Hs late (fuel + 1) listed L H := e_take i hi hsl hfr hr hlt hg hn hS hs h
theorem eS {op : Op} (i : Nat) {j t : Nat} {b c : Bool} (hi : ops[i]? = some ⟨some d, op, ty, pos, af, some (j, b)⟩) (h : E P κ ops Q Hs late fuel (listed.setIfInBounds i true) ((d, undef) :: L) H) (hsl : Region.noSelect ops = true := by kernel_rfl) (hfr : Region.free .any ops listed i = true := by kernel_rfl) (hr : (Region.ready .any ops listed).contains i = true := by kernel_rfl) (hj : (ops[j]?).bind (·.dst) = some t := by rfl) (ht : look L t = some (.bool c) := by rfl) (hne : (c == b) = false := by rfl) (hn : Nat.blt d κ.n = true := by rfl) : E P κ ops Q Hs late (fuel + 1) listed L H := e_skip i hi hsl hfr hr hj ht hne hn h
theorem eG {op : Op} {g : Option (Nat × Bool)} (i : Nat) (hi : ops[i]? = some ⟨some d, op, ty, pos, af, g⟩) (hs : Step P κ op ty L Hs v) (h : E P κ ops Q Hs late fuel (listed.setIfInBounds i true) ((d, v) :: L) H) (hS : HSub H Hs := by exact hzB) (hsl : Region.noSelect ops = true := by kernel_rfl) (hfr : Region.free .any ops listed i = true := by kernel_rfl) (hr : (Region.ready .any ops listed).contains i = true := by kernel_rfl)
    (hlt : lateB ops late i = true := by kernel_rfl) (hg : ∀ a : Act, Fr a κ.n κ.ds L → Region.wanted ⟨some d, op, ty, pos, af, g⟩ (yielded ops a.tmps) = true := by exact fun _ fr => by rw [wanted_of fr rfl rfl rfl]; rfl) (hn : Nat.blt d κ.n = true := by rfl) : E P κ ops Q Hs late (fuel + 1) listed L H := e_take i hi hsl hfr hr hlt hg hn hS hs h
theorem eP {op : Op} (i : Nat) (hi : ops[i]? = some ⟨some d, op, ty, pos, af, none⟩) (hs : Step P κ op ty L [] v) (h : E P κ ops Q Hs late fuel (listed.setIfInBounds i true) ((d, v) :: L) H) (hsl : Region.noSelect ops = true := by kernel_rfl) (hfr : Region.free .any ops listed i = true := by kernel_rfl) (hr : (Region.ready .any ops listed).contains i = true := by kernel_rfl) (hn : Nat.blt d κ.n = true := by rfl) : E P κ ops Q Hs late (fuel + 1) listed L H := e_pure i hi hsl hfr hr hn hs h
theorem eU {op : Op} (i : Nat) {j t : Nat} {b : Bool} (hi : ops[i]? = some ⟨some d, op, ty, pos, af, some (j, b)⟩) (h : E P κ ops Q Hs late fuel (listed.setIfInBounds i true) ((d, undef) :: L) H) (hsl : Region.noSelect ops = true := by kernel_rfl) (hfr : Region.free .any ops listed i = true := by kernel_rfl) (hr : (Region.ready .any ops listed).contains i = true := by kernel_rfl) (hj : (ops[j]?).bind (·.dst) = some t := by exact rfl) (ht : look L t = some undef := by exact rfl) (hn : Nat.blt d κ.n = true := by exact rfl) : E P κ ops Q Hs late (fuel + 1) listed L H := e_skipU i hi hsl hfr hr hj ht hn h
theorem oU {j : Nat} {b : Bool} {t : Nat} (h : O P κ ops Q rest ((d, undef) :: L) H) (hj : (ops[j]?).bind (·.dst) = some t := by exact rfl) (ht : look L t = some undef := by exact rfl) (hn : Nat.blt d κ.n = true := by exact rfl) : O P κ ops Q (⟨some d, op, ty, pos, af, some (j, b)⟩ :: rest) L H := o_noU hj ht hn h
end
theorem xI {κ : Cx} {L : Loc} {H : Hp} {Q : Pst} {ι : Type} {I : ι → Prop} {Lf : ι → Loc} {Hf : ι → Hp} {m : ι → Nat} {i : ι} (j : ι) (hI : I j) (hm : m j < m i := by first | omega | (dsimp only; omega)) (hL : Sub L (Lf j) := by exact sbA) (hH : HSub H (Hf j) := by exact hzB) : X κ (Exit.then (Inv κ I Lf Hf m i) Q .normal) L H := x_then (x_inv j hI hm hL hH)
theorem gE {α : Type} {l : List α} {i : Nat} (h : i < l.length := by omega) : ∃ x, l[i]? = some x := ⟨_, List.getElem?_eq_getElem h⟩
section
variable {P : Program} {L : Loc} {H : Hp}
theorem xR {fn : Func} {w0 : World} {M : List Nat} {post : Value → Hp → Prop} {n t : Nat} {v : Value} (hr : fn.results = [ResultVar.tmp t].toArray) (h : look L t = some v) (hp : post v H) : X ⟨n, [], w0, M⟩ (bodyPost P fn (Post w0 M post) .ret) L H := x_ret hr (.tmp h .nil) hp
end
end Go.HL
namespace Go.HL.Sts
open Go Go.HL
/-! classes: sets of bytes, as numbers of 24 bits -/
abbrev Sp := BitVec 24
def wp (c : Sp) (i : Nat) : BitVec 8 := c.extractLsb' (8 * i) 8
def Ep (w : BitVec 8) : Value := .int .u8 w.toNat
def E3 (c : Sp) : List Value := [Ep (wp c 0), Ep (wp c 1), Ep (wp c 2)]
instance : Enc E3 3 := ⟨fun _ => rfl, fun c v hv => by simp [E3, Ep] at hv; rcases hv with rfl | rfl | rfl <;> rfl⟩
theorem Es_one (c : Sp) : ∀ v ∈ E3 c, v.oneCell' = true := Enc.one c
theorem Es_get (c : Sp) {i : Nat} (h : i < 3) : (E3 c)[i]? = some (Ep (wp c i)) := by
  match i, h with
  | 0, _ => rfl
  | 1, _ => rfl
  | 2, _ => rfl
def setp (c : Sp) (i : Nat) (w : BitVec 8) : Sp := (c &&& ~~~ ((BitVec.allOnes 8).setWidth 24 <<< (8 * i))) ||| (w.setWidth 24 <<< (8 * i))
theorem setp_get (c : Sp) {i : Nat} (w : BitVec 8) (_hi : i < 3) {j : Nat} (hj : j < 24) : (setp c i w).getLsbD j = if 8 * i ≤ j ∧ j < 8 * i + 8 then w.getLsbD (j - 8 * i) else c.getLsbD j := by
  simp only [setp, BitVec.getLsbD_or, BitVec.getLsbD_and, BitVec.getLsbD_not, BitVec.getLsbD_shiftLeft, BitVec.getLsbD_setWidth, BitVec.getLsbD_allOnes, hj, decide_true, Bool.true_and]
  by_cases h1 : j < 8 * i
  · simp [h1]; omega
  · have h2 : 8 * i ≤ j := by omega
    by_cases h3 : j < 8 * i + 8
    · have h4 : j - 8 * i < 8 := by omega
      have h5 : j - 8 * i < 24 := by omega
      simp [h1, h2, h3, h4, h5]
    · have h4 : ¬ (j - 8 * i < 8) := by omega
      have h5 : w.getLsbD (j - 8 * i) = false := BitVec.getLsbD_of_ge _ _ (by omega)
      simp [h1, h3, h4, h5]
theorem wp_get (c : Sp) (i : Nat) {j : Nat} (hj : j < 8) : (wp c i).getLsbD j = c.getLsbD (8 * i + j) := by
  simp [wp, hj]
theorem wp_setp (c : Sp) {i k : Nat} (w : BitVec 8) (hi : i < 3) (hk : k < 3) : wp (setp c i w) k = if i = k then w else wp c k := by
  apply BitVec.eq_of_getLsbD_eq
  intro j hj
  rw [wp_get _ _ hj, setp_get _ _ hi (by omega)]
  by_cases e : i = k
  · subst e
    have : 8 * i + j - 8 * i = j := by omega
    rw [if_pos (by omega), if_pos rfl, this]
  · rw [if_neg (by omega), if_neg e, wp_get _ _ hj]
theorem Es_set (c : Sp) {i : Nat} (w : BitVec 8) (hi : i < 3) : (E3 c).set i (Ep w) = E3 (setp c i w) := by
  simp only [E3, wp_setp c w hi (by decide : 0 < 3), wp_setp c w hi (by decide : 1 < 3), wp_setp c w hi (by decide : 2 < 3)]
  match i, hi with
  | 0, _ => rfl
  | 1, _ => rfl
  | 2, _ => rfl
theorem ext_wp {c d : Sp} (h : ∀ i, i < 3 → wp c i = wp d i) : c = d := by
  apply BitVec.eq_of_getLsbD_eq
  intro j hj
  have h1 := congrArg (fun w => BitVec.getLsbD w (j % 8)) (h (j / 8) (by omega))
  simp only [wp_get _ _ (show j % 8 < 8 by omega)] at h1
  have : 8 * (j / 8) + j % 8 = j := by omega
  rwa [this] at h1
theorem Es_inj {c d : Sp} (h : E3 c = E3 d) : c = d := by
  simp only [E3, Ep, List.cons.injEq, Value.int.injEq, true_and, and_true] at h
  obtain ⟨h0, h1, h2⟩ := h
  refine ext_wp fun i hi => ?_
  match i, hi with
  | 0, _ => exact BitVec.eq_of_toNat_eq (by omega)
  | 1, _ => exact BitVec.eq_of_toNat_eq (by omega)
  | 2, _ => exact BitVec.eq_of_toNat_eq (by omega)
def Is (c : Sp) : List Int := [((wp c 0).toNat : Int), ((wp c 1).toNat : Int), ((wp c 2).toNat : Int)]
theorem Es_ints (c : Sp) : E3 c = intsV .u8 (Is c) := rfl
theorem Is_inj {c d : Sp} : Is c = Is d ↔ c = d := ⟨fun h => Es_inj (by rw [Es_ints, Es_ints, h]), fun h => by rw [h]⟩
/-! one byte -/
def pit (x : Nat) : Sp := 1#24 <<< x
theorem pit_get {x j : Nat} (hj : j < 24) : (pit x).getLsbD j = decide (j = x) := by
  simp only [pit, BitVec.getLsbD_shiftLeft, hj, decide_true, Bool.true_and, BitVec.getLsbD_one]
  by_cases h : j = x
  · subst h; simp
  · by_cases h2 : j < x
    · simp [h, h2]
    · have : ¬ (j - x = 0) := by omega
      simp [h, h2]; omega
theorem withs_eq (c : Sp) {x : Nat} (hx : x < 24) : setp c (x / 8) (wp c (x / 8) ||| (1#8 <<< (x % 8))) = c ||| pit x := by
  apply BitVec.eq_of_getLsbD_eq
  intro j hj
  rw [setp_get _ _ (by omega) hj, BitVec.getLsbD_or (x := c), pit_get hj]
  by_cases h : 8 * (x / 8) ≤ j ∧ j < 8 * (x / 8) + 8
  · rw [if_pos h, BitVec.getLsbD_or, wp_get _ _ (by omega)]
    have e : 8 * (x / 8) + (j - 8 * (x / 8)) = j := by omega
    rw [e]
    congr 1
    simp only [BitVec.getLsbD_shiftLeft, BitVec.getLsbD_one]
    by_cases h2 : j = x
    · have h3 : j - 8 * (x / 8) = x % 8 := by omega
      simp [h2]; omega
    · have h3 : ¬ (j - 8 * (x / 8) = x % 8) := by omega
      by_cases h4 : j - 8 * (x / 8) < x % 8
      · simp [h2, h4]
      · have h5 : ¬ (j - 8 * (x / 8) - x % 8 = 0) := by omega
        simp [h2, h4]; omega
  · rw [if_neg h]
    have h2 : ¬ (j = x) := by omega
    simp [h2]
/-! the program's arithmetic on bytes and words -/
theorem wraps_u8 (n : Int) : IntKind.u8.wrap n = n % 256 := by simp [IntKind.wrap, IntKind.signed, IntKind.bits]
theorem wraps8 (w : BitVec 8) : IntKind.u8.wrap (w.toNat : Int) = w.toNat := by
  have := w.isLt
  rw [wraps_u8]; omega
theorem ofs8 (w : BitVec 8) : BitVec.ofInt IntKind.u8.bits (w.toNat : Int) = w := by
  apply BitVec.eq_of_toNat_eq
  have := w.isLt
  simp [IntKind.bits]
theorem vs_or (a b : BitVec 8) : Value.int .u8 (IntKind.u8.wrap (BitVec.ofInt IntKind.u8.bits (a.toNat : Int) ||| BitVec.ofInt IntKind.u8.bits (b.toNat : Int)).toNat) = Ep (a ||| b) := by
  rw [ofs8, ofs8]; exact congrArg _ (wraps8 _)
theorem vs_and (a b : BitVec 8) : Value.int .u8 (IntKind.u8.wrap (BitVec.ofInt IntKind.u8.bits (a.toNat : Int) &&& BitVec.ofInt IntKind.u8.bits (b.toNat : Int)).toNat) = Ep (a &&& b) := by
  rw [ofs8, ofs8]; exact congrArg _ (wraps8 _)
theorem vs_shl1 {k : Nat} (hk : k < 8) : Value.int .u8 (IntKind.u8.wrap (1 * 2 ^ (min ((k : Nat) : Int).toNat IntKind.u8.bits))) = Ep (1#8 <<< k) := by
  have e : min ((k : Nat) : Int).toNat IntKind.u8.bits = k := by simp [IntKind.bits]; omega
  rw [e]
  have h1 : (2 : Nat) ^ k < 2 ^ 8 := Nat.pow_lt_pow_right (by decide) hk
  have h2 : ((2 : Int) ^ k) = ((2 ^ k : Nat) : Int) := by simp
  simp only [Ep, Value.int.injEq, true_and, Int.one_mul]
  rw [h2, wraps_u8]
  have h3 : (1#8 <<< k).toNat = 2 ^ k := by
    rw [BitVec.toNat_shiftLeft, BitVec.toNat_ofNat, Nat.shiftLeft_eq]
    simp
    exact h1
  rw [h3]; omega
theorem hass_eq (w : BitVec 8) {k : Nat} (hk : k < 8) : decide (IntKind.u8.wrap (BitVec.ofInt IntKind.u8.bits ((w.toNat : Int).fdiv (2 ^ (min ((k : Nat) : Int).toNat IntKind.u8.bits))) &&& BitVec.ofInt IntKind.u8.bits 1).toNat = 1) = w.getLsbD k := by
  have e : min ((k : Nat) : Int).toNat IntKind.u8.bits = k := by simp [IntKind.bits]; omega
  rw [e]
  have h2 : ((2 : Int) ^ k) = ((2 ^ k : Nat) : Int) := by simp
  have h3 : (w.toNat : Int).fdiv (2 ^ k) = ((w >>> k).toNat : Int) := by
    rw [h2, Int.fdiv_eq_ediv_of_nonneg _ (Int.natCast_nonneg _), BitVec.toNat_ushiftRight, Nat.shiftRight_eq_div_pow]; rfl
  have h4 : BitVec.ofInt IntKind.u8.bits 1 = 1#8 := rfl
  rw [h3, ofs8, h4]
  have h6 : IntKind.u8.wrap ((w >>> k &&& 1#8).toNat : Int) = ((w >>> k &&& 1#8).toNat : Int) := wraps8 _
  refine (congrArg (fun z => decide (z = 1)) h6).trans ?_
  have h5 : (w >>> k &&& 1#8).toNat = if w.getLsbD k then 1 else 0 := by
    have := BitVec.and_one_eq_setWidth_ofBool_getLsbD (x := w >>> k)
    rw [this, BitVec.getLsbD_ushiftRight, Nat.add_zero]
    cases w.getLsbD k <;> rfl
  rw [h5]
  cases w.getLsbD k <;> simp
theorem wp_pit (c : Sp) {x : Nat} (_hx : x < 24) : (wp c (x / 8)).getLsbD (x % 8) = c.getLsbD x := by
  rw [wp_get _ _ (by omega)]
  congr 1; omega
theorem hasS (c : Sp) {x : Nat} (hx : x < 24) : decide (IntKind.u8.wrap (BitVec.ofInt IntKind.u8.bits (((wp c (x / 8)).toNat : Int).fdiv (2 ^ (min (((x % 8 : Nat) : Nat) : Int).toNat IntKind.u8.bits))) &&& BitVec.ofInt IntKind.u8.bits 1).toNat = 1) = c.getLsbD x := by
  rw [hass_eq _ (by omega), wp_pit c hx]
section
variable {P : Program} {κ : Cx} {L : Loc} {H : Hp} {ty t t' : TypeId} {x y : Operand}
end
/-! word by word -/
def mapP (f : Nat → BitVec 8 → BitVec 8) (c : Sp) : Nat → Sp
  | 0 => c
  | i + 1 => setp (mapP f c i) i (f i (wp (mapP f c i) i))
theorem wp_mapP (f : Nat → BitVec 8 → BitVec 8) (c : Sp) : ∀ (i : Nat), i ≤ 3 → ∀ k, k < 3 → wp (mapP f c i) k = if k < i then f k (wp c k) else wp c k
  | 0, _, k, _ => by simp [mapP]
  | i + 1, hi, k, hk => by
    unfold mapP
    rw [wp_setp _ _ (by omega) hk]
    have ih := fun k hk => wp_mapP f c i (by omega) k hk
    by_cases e : i = k
    · subst e
      rw [if_pos rfl, if_pos (by omega), ih i (by omega), if_neg (by omega)]
    · rw [if_neg e, ih k hk]
      by_cases h : k < i
      · rw [if_pos h, if_pos (by omega)]
      · rw [if_neg h, if_neg (by omega)]
theorem wp_or (a b : Sp) (k : Nat) : wp (a ||| b) k = wp a k ||| wp b k := by
  apply BitVec.eq_of_getLsbD_eq
  intro j hj
  rw [wp_get _ _ hj, BitVec.getLsbD_or, BitVec.getLsbD_or, wp_get _ _ hj, wp_get _ _ hj]
theorem wp_and (a b : Sp) (k : Nat) : wp (a &&& b) k = wp a k &&& wp b k := by
  apply BitVec.eq_of_getLsbD_eq
  intro j hj
  rw [wp_get _ _ hj, BitVec.getLsbD_and, BitVec.getLsbD_and, wp_get _ _ hj, wp_get _ _ hj]
theorem mapP_or (a b : Sp) : mapP (fun i w => w ||| wp b i) a 3 = a ||| b := ext_wp fun i hi => by rw [wp_mapP _ _ 3 (by omega) i hi, if_pos hi, wp_or]
theorem mapP_and (a b : Sp) : mapP (fun i w => w &&& wp b i) a 3 = a &&& b := ext_wp fun i hi => by rw [wp_mapP _ _ 3 (by omega) i hi, if_pos hi, wp_and]
end Go.HL.Sts
namespace Go.HL.Kl
open Go Go.HL
/-! classes: sets of bytes, as numbers of 256 bits -/
abbrev Cl := BitVec 256
def wd (c : Cl) (i : Nat) : BitVec 64 := c.extractLsb' (64 * i) 64
def Ew (w : BitVec 64) : Value := .int .u64 w.toNat
def Ec (c : Cl) : List Value := [Ew (wd c 0), Ew (wd c 1), Ew (wd c 2), Ew (wd c 3)]
instance : Enc Ec 4 := ⟨fun _ => rfl, fun c v hv => by simp [Ec, Ew] at hv; rcases hv with rfl | rfl | rfl | rfl <;> rfl⟩
theorem Ec_one (c : Cl) : ∀ v ∈ Ec c, v.oneCell' = true := Enc.one c
theorem Ec_get (c : Cl) {i : Nat} (h : i < 4) : (Ec c)[i]? = some (Ew (wd c i)) := by
  match i, h with
  | 0, _ => rfl
  | 1, _ => rfl
  | 2, _ => rfl
  | 3, _ => rfl
def setw (c : Cl) (i : Nat) (w : BitVec 64) : Cl := (c &&& ~~~ ((BitVec.allOnes 64).setWidth 256 <<< (64 * i))) ||| (w.setWidth 256 <<< (64 * i))
theorem setw_get (c : Cl) {i : Nat} (w : BitVec 64) (_hi : i < 4) {j : Nat} (hj : j < 256) : (setw c i w).getLsbD j = if 64 * i ≤ j ∧ j < 64 * i + 64 then w.getLsbD (j - 64 * i) else c.getLsbD j := by
  simp only [setw, BitVec.getLsbD_or, BitVec.getLsbD_and, BitVec.getLsbD_not, BitVec.getLsbD_shiftLeft, BitVec.getLsbD_setWidth, BitVec.getLsbD_allOnes, hj, decide_true, Bool.true_and]
  by_cases h1 : j < 64 * i
  · simp [h1]; omega
  · have h2 : 64 * i ≤ j := by omega
    by_cases h3 : j < 64 * i + 64
    · have h4 : j - 64 * i < 64 := by omega
      have h5 : j - 64 * i < 256 := by omega
      simp [h1, h2, h3, h4, h5]
    · have h4 : ¬ (j - 64 * i < 64) := by omega
      have h5 : w.getLsbD (j - 64 * i) = false := BitVec.getLsbD_of_ge _ _ (by omega)
      simp [h1, h3, h4, h5]
theorem wd_get (c : Cl) (i : Nat) {j : Nat} (hj : j < 64) : (wd c i).getLsbD j = c.getLsbD (64 * i + j) := by
  simp [wd, hj]
theorem wd_setw (c : Cl) {i k : Nat} (w : BitVec 64) (hi : i < 4) (hk : k < 4) : wd (setw c i w) k = if i = k then w else wd c k := by
  apply BitVec.eq_of_getLsbD_eq
  intro j hj
  rw [wd_get _ _ hj, setw_get _ _ hi (by omega)]
  by_cases e : i = k
  · subst e
    have : 64 * i + j - 64 * i = j := by omega
    rw [if_pos (by omega), if_pos rfl, this]
  · rw [if_neg (by omega), if_neg e, wd_get _ _ hj]
theorem Ec_set (c : Cl) {i : Nat} (w : BitVec 64) (hi : i < 4) : (Ec c).set i (Ew w) = Ec (setw c i w) := by
  simp only [Ec, wd_setw c w hi (by decide : 0 < 4), wd_setw c w hi (by decide : 1 < 4), wd_setw c w hi (by decide : 2 < 4), wd_setw c w hi (by decide : 3 < 4)]
  match i, hi with
  | 0, _ => rfl
  | 1, _ => rfl
  | 2, _ => rfl
  | 3, _ => rfl
theorem ext_wd {c d : Cl} (h : ∀ i, i < 4 → wd c i = wd d i) : c = d := by
  apply BitVec.eq_of_getLsbD_eq
  intro j hj
  have h1 := congrArg (fun w => BitVec.getLsbD w (j % 64)) (h (j / 64) (by omega))
  simp only [wd_get _ _ (show j % 64 < 64 by omega)] at h1
  have : 64 * (j / 64) + j % 64 = j := by omega
  rwa [this] at h1
theorem Ec_inj {c d : Cl} (h : Ec c = Ec d) : c = d := by
  simp only [Ec, Ew, List.cons.injEq, Value.int.injEq, true_and, and_true] at h
  obtain ⟨h0, h1, h2, h3⟩ := h
  refine ext_wd fun i hi => ?_
  match i, hi with
  | 0, _ => exact BitVec.eq_of_toNat_eq (by omega)
  | 1, _ => exact BitVec.eq_of_toNat_eq (by omega)
  | 2, _ => exact BitVec.eq_of_toNat_eq (by omega)
  | 3, _ => exact BitVec.eq_of_toNat_eq (by omega)
def Ic (c : Cl) : List Int := [((wd c 0).toNat : Int), ((wd c 1).toNat : Int), ((wd c 2).toNat : Int), ((wd c 3).toNat : Int)]
theorem Ec_ints (c : Cl) : Ec c = intsV .u64 (Ic c) := rfl
theorem Ic_inj {c d : Cl} : Ic c = Ic d ↔ c = d := ⟨fun h => Ec_inj (by rw [Ec_ints, Ec_ints, h]), fun h => by rw [h]⟩
/-! one byte -/
def bit (x : Nat) : Cl := 1#256 <<< x
theorem bit_get {x j : Nat} (hj : j < 256) : (bit x).getLsbD j = decide (j = x) := by
  simp only [bit, BitVec.getLsbD_shiftLeft, hj, decide_true, Bool.true_and, BitVec.getLsbD_one]
  by_cases h : j = x
  · subst h; simp
  · by_cases h2 : j < x
    · simp [h, h2]
    · have : ¬ (j - x = 0) := by omega
      simp [h, h2]; omega
theorem with_eq (c : Cl) {x : Nat} (hx : x < 256) : setw c (x / 64) (wd c (x / 64) ||| (1#64 <<< (x % 64))) = c ||| bit x := by
  apply BitVec.eq_of_getLsbD_eq
  intro j hj
  rw [setw_get _ _ (by omega) hj, BitVec.getLsbD_or (x := c), bit_get hj]
  by_cases h : 64 * (x / 64) ≤ j ∧ j < 64 * (x / 64) + 64
  · rw [if_pos h, BitVec.getLsbD_or, wd_get _ _ (by omega)]
    have e : 64 * (x / 64) + (j - 64 * (x / 64)) = j := by omega
    rw [e]
    congr 1
    simp only [BitVec.getLsbD_shiftLeft, BitVec.getLsbD_one]
    by_cases h2 : j = x
    · have h3 : j - 64 * (x / 64) = x % 64 := by omega
      simp [h2]; omega
    · have h3 : ¬ (j - 64 * (x / 64) = x % 64) := by omega
      by_cases h4 : j - 64 * (x / 64) < x % 64
      · simp [h2, h4]
      · have h5 : ¬ (j - 64 * (x / 64) - x % 64 = 0) := by omega
        simp [h2, h4]; omega
  · rw [if_neg h]
    have h2 : ¬ (j = x) := by omega
    simp [h2]
/-! the program's arithmetic on bytes and words -/
theorem wrap_u64 (n : Int) : IntKind.u64.wrap n = n % 18446744073709551616 := by simp [IntKind.wrap, IntKind.signed, IntKind.bits]
theorem wrap64 (w : BitVec 64) : IntKind.u64.wrap (w.toNat : Int) = w.toNat := by
  have := w.isLt
  rw [wrap_u64]; omega
theorem of64 (w : BitVec 64) : BitVec.ofInt IntKind.u64.bits (w.toNat : Int) = w := by
  apply BitVec.eq_of_toNat_eq
  have := w.isLt
  simp [IntKind.bits]
theorem v_or (a b : BitVec 64) : Value.int .u64 (IntKind.u64.wrap (BitVec.ofInt IntKind.u64.bits (a.toNat : Int) ||| BitVec.ofInt IntKind.u64.bits (b.toNat : Int)).toNat) = Ew (a ||| b) := by
  rw [of64, of64]; exact congrArg _ (wrap64 _)
theorem v_and (a b : BitVec 64) : Value.int .u64 (IntKind.u64.wrap (BitVec.ofInt IntKind.u64.bits (a.toNat : Int) &&& BitVec.ofInt IntKind.u64.bits (b.toNat : Int)).toNat) = Ew (a &&& b) := by
  rw [of64, of64]; exact congrArg _ (wrap64 _)
theorem v_shl1 {k : Nat} (hk : k < 64) : Value.int .u64 (IntKind.u64.wrap (1 * 2 ^ (min ((k : Nat) : Int).toNat IntKind.u64.bits))) = Ew (1#64 <<< k) := by
  have e : min ((k : Nat) : Int).toNat IntKind.u64.bits = k := by simp [IntKind.bits]; omega
  rw [e]
  have h1 : (2 : Nat) ^ k < 2 ^ 64 := Nat.pow_lt_pow_right (by decide) hk
  have h2 : ((2 : Int) ^ k) = ((2 ^ k : Nat) : Int) := by simp
  simp only [Ew, Value.int.injEq, true_and, Int.one_mul]
  rw [h2, wrap_u64]
  have h3 : (1#64 <<< k).toNat = 2 ^ k := by
    rw [BitVec.toNat_shiftLeft, BitVec.toNat_ofNat, Nat.shiftLeft_eq]
    simp
    exact h1
  rw [h3]; omega
theorem has_eq (w : BitVec 64) {k : Nat} (hk : k < 64) : decide (IntKind.u64.wrap (BitVec.ofInt IntKind.u64.bits ((w.toNat : Int).fdiv (2 ^ (min ((k : Nat) : Int).toNat IntKind.u64.bits))) &&& BitVec.ofInt IntKind.u64.bits 1).toNat = 1) = w.getLsbD k := by
  have e : min ((k : Nat) : Int).toNat IntKind.u64.bits = k := by simp [IntKind.bits]; omega
  rw [e]
  have h2 : ((2 : Int) ^ k) = ((2 ^ k : Nat) : Int) := by simp
  have h3 : (w.toNat : Int).fdiv (2 ^ k) = ((w >>> k).toNat : Int) := by
    rw [h2, Int.fdiv_eq_ediv_of_nonneg _ (Int.natCast_nonneg _), BitVec.toNat_ushiftRight, Nat.shiftRight_eq_div_pow]; rfl
  have h4 : BitVec.ofInt IntKind.u64.bits 1 = 1#64 := rfl
  rw [h3, of64, h4]
  have h6 : IntKind.u64.wrap ((w >>> k &&& 1#64).toNat : Int) = ((w >>> k &&& 1#64).toNat : Int) := wrap64 _
  refine (congrArg (fun z => decide (z = 1)) h6).trans ?_
  have h5 : (w >>> k &&& 1#64).toNat = if w.getLsbD k then 1 else 0 := by
    have := BitVec.and_one_eq_setWidth_ofBool_getLsbD (x := w >>> k)
    rw [this, BitVec.getLsbD_ushiftRight, Nat.add_zero]
    cases w.getLsbD k <;> rfl
  rw [h5]
  cases w.getLsbD k <;> simp
theorem shr6_i64 {x : Nat} (hx : x < 256) : ((x : Int)).fdiv (2 ^ (min (6 : Int).toNat IntKind.i64.bits)) = ((x / 64 : Nat) : Int) := by
  have : ∀ x : Fin 256, ((x.val : Int)).fdiv (2 ^ (min (6 : Int).toNat IntKind.i64.bits)) = ((x.val / 64 : Nat) : Int) := by decide +kernel
  exact this ⟨x, hx⟩
theorem and63_i64 {x : Nat} (hx : x < 256) : IntKind.i64.wrap (BitVec.ofInt IntKind.i64.bits (x : Int) &&& BitVec.ofInt IntKind.i64.bits 63).toNat = ((x % 64 : Nat) : Int) := by
  have : ∀ x : Fin 256, IntKind.i64.wrap (BitVec.ofInt IntKind.i64.bits (x.val : Int) &&& BitVec.ofInt IntKind.i64.bits 63).toNat = ((x.val % 64 : Nat) : Int) := by decide +kernel
  exact this ⟨x, hx⟩
theorem quo64 {x : Nat} (hx : x < 256) : IntKind.u8.wrap ((x : Int).tdiv 64) = ((x / 64 : Nat) : Int) := by
  have : ∀ x : Fin 256, IntKind.u8.wrap ((x.val : Int).tdiv 64) = ((x.val / 64 : Nat) : Int) := by decide +kernel
  exact this ⟨x, hx⟩
theorem rem64 {x : Nat} (hx : x < 256) : (x : Int).tmod 64 = ((x % 64 : Nat) : Int) := by
  have : ∀ x : Fin 256, (x.val : Int).tmod 64 = ((x.val % 64 : Nat) : Int) := by decide +kernel
  exact this ⟨x, hx⟩
theorem conv8 {x : Nat} (hx : x < 256) : IntKind.u8.wrap (x : Int) = (x : Int) := by
  have : ∀ x : Fin 256, IntKind.u8.wrap (x.val : Int) = (x.val : Int) := by decide +kernel
  exact this ⟨x, hx⟩
theorem conv64 {x : Nat} (hx : x < 256) : IntKind.i64.wrap (x : Int) = (x : Int) := by
  have : ∀ x : Fin 256, IntKind.i64.wrap (x.val : Int) = (x.val : Int) := by decide +kernel
  exact this ⟨x, hx⟩
theorem wd_bit (c : Cl) {x : Nat} (_hx : x < 256) : (wd c (x / 64)).getLsbD (x % 64) = c.getLsbD x := by
  rw [wd_get _ _ (by omega)]
  congr 1; omega
theorem hasB (c : Cl) {x : Nat} (hx : x < 256) : decide (IntKind.u64.wrap (BitVec.ofInt IntKind.u64.bits (((wd c (x / 64)).toNat : Int).fdiv (2 ^ (min (((x % 64 : Nat) : Nat) : Int).toNat IntKind.u64.bits))) &&& BitVec.ofInt IntKind.u64.bits 1).toNat = 1) = c.getLsbD x := by
  rw [has_eq _ (by omega), wd_bit c hx]
theorem v_com (w : BitVec 64) : Value.int .u64 (IntKind.u64.wrap (BitVec.ofInt IntKind.u64.bits (if IntKind.u64.signed then -1 else IntKind.u64.max) ^^^ BitVec.ofInt IntKind.u64.bits (w.toNat : Int)).toNat) = Ew (~~~w) := by
  rw [of64]
  have e : BitVec.ofInt IntKind.u64.bits (if IntKind.u64.signed then -1 else IntKind.u64.max) = BitVec.allOnes 64 := rfl
  rw [e]
  have e2 : BitVec.allOnes 64 ^^^ w = ~~~w := BitVec.allOnes_xor
  have := wrap64 (BitVec.allOnes 64 ^^^ w)
  refine (congrArg (Value.int .u64) this).trans ?_
  rw [e2]; rfl
theorem Ec_zero : Ec 0#256 = [.int .u64 0, .int .u64 0, .int .u64 0, .int .u64 0] := by simp [Ec, Ew, wd]
theorem Ic_len (c : Cl) : (Ic c).length = 4 := rfl
section
variable {P : Program} {κ : Cx} {L : Loc} {H : Hp} {ty t t' : TypeId} {x y : Operand}
theorem s_eql_cl {e b : Nat} {k' : IntKind} [TU P t (.array 4 e)] [TU P e (.int k')] [TG P e true] [TI P e 1 b] [EG P t] {c d : Cl} (hx : ev L x = some (.agg (Ec c).toArray)) (hy : ev L y = some (.agg (Ec d).toArray)) : Step P κ (.binOp .eql t x y t') ty L H (.bool (decide (c = d))) :=
  step_cast (s_eql_arr (j := .u64) (xs := Ic c) (ys := Ic d) (by rw [← Ec_ints]; exact hx) (by rw [← Ec_ints]; exact hy) (Ic_len c) (Ic_len d)) (congrArg Value.bool (decide_eq_decide.2 Ic_inj))
theorem s_neq_cl {e b : Nat} {k' : IntKind} [TU P t (.array 4 e)] [TU P e (.int k')] [TG P e true] [TI P e 1 b] [EG P t] {c d : Cl} (hx : ev L x = some (.agg (Ec c).toArray)) (hy : ev L y = some (.agg (Ec d).toArray)) : Step P κ (.binOp .neq t x y t') ty L H (.bool (decide (c ≠ d))) :=
  step_cast (s_neq_arr (j := .u64) (xs := Ic c) (ys := Ic d) (by rw [← Ec_ints]; exact hx) (by rw [← Ec_ints]; exact hy) (Ic_len c) (Ic_len d)) (congrArg Value.bool (decide_eq_decide.2 (not_congr Ic_inj)))
end
/-! word by word -/
def mapW (f : Nat → BitVec 64 → BitVec 64) (c : Cl) : Nat → Cl
  | 0 => c
  | i + 1 => setw (mapW f c i) i (f i (wd (mapW f c i) i))
theorem wd_mapW (f : Nat → BitVec 64 → BitVec 64) (c : Cl) : ∀ (i : Nat), i ≤ 4 → ∀ k, k < 4 → wd (mapW f c i) k = if k < i then f k (wd c k) else wd c k
  | 0, _, k, _ => by simp [mapW]
  | i + 1, hi, k, hk => by
    unfold mapW
    rw [wd_setw _ _ (by omega) hk]
    have ih := fun k hk => wd_mapW f c i (by omega) k hk
    by_cases e : i = k
    · subst e
      rw [if_pos rfl, if_pos (by omega), ih i (by omega), if_neg (by omega)]
    · rw [if_neg e, ih k hk]
      by_cases h : k < i
      · rw [if_pos h, if_pos (by omega)]
      · rw [if_neg h, if_neg (by omega)]
theorem wd_or (a b : Cl) (k : Nat) : wd (a ||| b) k = wd a k ||| wd b k := by
  apply BitVec.eq_of_getLsbD_eq
  intro j hj
  rw [wd_get _ _ hj, BitVec.getLsbD_or, BitVec.getLsbD_or, wd_get _ _ hj, wd_get _ _ hj]
theorem wd_and (a b : Cl) (k : Nat) : wd (a &&& b) k = wd a k &&& wd b k := by
  apply BitVec.eq_of_getLsbD_eq
  intro j hj
  rw [wd_get _ _ hj, BitVec.getLsbD_and, BitVec.getLsbD_and, wd_get _ _ hj, wd_get _ _ hj]
theorem wd_not (a : Cl) {k : Nat} (hk : k < 4) : wd (~~~a) k = ~~~(wd a k) := by
  apply BitVec.eq_of_getLsbD_eq
  intro j hj
  rw [wd_get _ _ hj, BitVec.getLsbD_not, BitVec.getLsbD_not, wd_get _ _ hj]
  have : 64 * k + j < 256 := by omega
  simp [hj, this]
theorem mapW_or (a b : Cl) : mapW (fun i w => w ||| wd b i) a 4 = a ||| b := ext_wd fun i hi => by rw [wd_mapW _ _ 4 (by omega) i hi, if_pos hi, wd_or]
theorem mapW_and (a b : Cl) : mapW (fun i w => w &&& wd b i) a 4 = a &&& b := ext_wd fun i hi => by rw [wd_mapW _ _ 4 (by omega) i hi, if_pos hi, wd_and]
theorem mapW_not (a : Cl) : mapW (fun _ w => ~~~w) a 4 = ~~~a := ext_wd fun i hi => by rw [wd_mapW _ _ 4 (by omega) i hi, if_pos hi, wd_not a hi]
/-! byte by byte -/
theorem cl_ext {c d : Cl} (h : ∀ j, j < 256 → c.getLsbD j = d.getLsbD j) : c = d := BitVec.eq_of_getLsbD_eq fun j hj => h j hj
def Part (p : Nat → Bool) (i : Nat) (c : Cl) : Prop := ∀ j, j < 256 → c.getLsbD j = (decide (j < i) && p j)
theorem Part.zero {p : Nat → Bool} : Part p 0 0#256 := fun j _ => by simp
theorem Part.yes {p : Nat → Bool} {i : Nat} {c : Cl} (h : Part p i c) (hp : p i = true) : Part p (i + 1) (c ||| bit i) := fun j hj => by
  rw [BitVec.getLsbD_or, bit_get hj, h j hj]
  by_cases e : j = i
  · subst e; simp [hp]
  · have : (j < i + 1) = (j < i) := by simp; omega
    simp [e, this]
theorem Part.no {p : Nat → Bool} {i : Nat} {c : Cl} (h : Part p i c) (hp : p i = false) : Part p (i + 1) c := fun j hj => by
  rw [h j hj]
  by_cases e : j = i
  · subst e; simp [hp]
  · have : (j < i + 1) = (j < i) := by simp; omega
    simp [this]
def rngTo (lo : Nat) : Nat → Cl
  | 0 => 0
  | x + 1 => if lo ≤ x then rngTo lo x ||| bit x else 0
def rng (lo hi : Nat) : Cl := rngTo lo (hi + 1)
theorem rngTo_low {lo x : Nat} (h : x ≤ lo) : rngTo lo x = 0 := by
  cases x with
  | zero => rfl
  | succ x => simp [rngTo]; omega
theorem rngTo_step {lo x : Nat} (h : lo ≤ x) : rngTo lo (x + 1) = rngTo lo x ||| bit x := by simp [rngTo, h]
theorem rngTo_get (lo : Nat) : ∀ (x j : Nat), j < 256 → (rngTo lo x).getLsbD j = (decide (lo ≤ j) && decide (j < x))
  | 0, j, _ => by simp [rngTo]
  | x + 1, j, hj => by
    unfold rngTo
    split
    · rename_i h
      rw [BitVec.getLsbD_or, bit_get hj, rngTo_get lo x j hj]
      by_cases e : j = x
      · subst e; simp [h]
      · have : (j < x + 1) = (j < x) := by simp; omega
        simp [e, this]
    · rename_i h
      have : ¬ (lo ≤ j ∧ j < x + 1) := by omega
      simp; omega
theorem rng_get {lo hi j : Nat} (hj : j < 256) : (rng lo hi).getLsbD j = (decide (lo ≤ j) && decide (j ≤ hi)) := by
  rw [rng, rngTo_get _ _ _ hj]
  have : (j < hi + 1) = (j ≤ hi) := by simp; omega
  simp only [this]
theorem rng_end {lo hi x : Nat} (h1 : lo ≤ x) (h2 : hi < x) (h3 : x ≤ max lo (hi + 1)) : rngTo lo x = rng lo hi := by
  apply cl_ext
  intro j hj
  rw [rngTo_get _ _ _ hj, rng_get hj]
  by_cases h : lo ≤ j
  · have : (j < x) = (j ≤ hi) := by simp; omega
    simp [h, this]
  · simp [h]
def ofL (l : List UInt8) : Cl := l.foldl (fun c b => c ||| bit b.toNat) 0
def sizeTo (c : Cl) (i : Nat) : Nat := (List.range i).countP c.getLsbD
def size (c : Cl) : Nat := sizeTo c 256
theorem sizeTo_step (c : Cl) (i : Nat) : sizeTo c (i + 1) = sizeTo c i + if c.getLsbD i then 1 else 0 := by
  unfold sizeTo
  rw [List.range_succ, List.countP_append]
  simp [List.countP_cons]
theorem sizeTo_le (c : Cl) (i : Nat) : sizeTo c i ≤ i := by
  have := List.countP_le_length (p := c.getLsbD) (l := List.range i)
  simpa [sizeTo] using this
def memsTo (c : Cl) (i : Nat) : List Nat := (List.range i).filter c.getLsbD
def mems (c : Cl) : List Nat := memsTo c 256
theorem memsTo_lt {c : Cl} {i b : Nat} (h : b ∈ memsTo c i) : b < i ∧ c.getLsbD b = true := by
  simpa [memsTo] using h
def Eby (b : Nat) : List Value := [.int .u8 b]
instance : Enc Eby 1 := ⟨fun _ => rfl, fun _ _ h => by simp [Eby] at h; subst h; rfl⟩
end Go.HL.Kl
namespace Go.HL.Kl
open Go Go.HL
/-! OnesCount64: the sums of the lanes -/
def pk (k : Nat) : Nat → (Nat → Nat) → Nat
  | 0, _ => 0
  | n + 1, f => 2 ^ k * pk k n (fun i => f (i + 1)) + f 0
def bt (w : BitVec 64) (i : Nat) : Nat := if w.getLsbD i then 1 else 0
def popW (w : BitVec 64) : Nat := (List.range 64).countP w.getLsbD
def sums (f : Nat → Nat) (i : Nat) : Nat := f (2 * i) + f (2 * i + 1)
def oc1 (w : BitVec 64) : BitVec 64 := ((w >>> 1) &&& 6148914691236517205#64) + (w &&& 6148914691236517205#64)
def oc2 (w : BitVec 64) : BitVec 64 := ((w >>> 2) &&& 3689348814741910323#64) + (w &&& 3689348814741910323#64)
def oc3 (w : BitVec 64) : BitVec 64 := ((w >>> 4) + w) &&& 1085102592571150095#64
def oc4 (k : Nat) (w : BitVec 64) : BitVec 64 := w + (w >>> k)
def sm (f : Nat → Nat) : Nat → Nat
  | 0 => 0
  | n + 1 => sm f n + f n
/-! the size, word by word -/
theorem range_split (a b : Nat) : List.range (a + b) = List.range a ++ (List.range b).map (fun i => a + i) := by
  rw [List.range_eq_range', List.range_eq_range', List.range_eq_range', ← List.range'_append_1 (s := 0)]
  simp [List.map_add_range']
theorem ctz_lt (w : BitVec 64) (h : w ≠ 0#64) : Lib.ctz 64 w.toNat < 64 ∧ w.getLsbD (Lib.ctz 64 w.toNat) = true ∧ (∀ j, j < Lib.ctz 64 w.toNat → w.getLsbD j = false) ∧ ∀ j, (w &&& (w - 1#64)).getLsbD j = (w.getLsbD j && decide (j ≠ Lib.ctz 64 w.toNat)) := by
  have h0 : w.toNat ≠ 0 := fun e => h (BitVec.eq_of_toNat_eq (by simpa using e))
  obtain ⟨m, hm, hk⟩ := Lib.ctzFrom_spec 64 w.toNat (by omega) w.isLt
  have hc : Lib.ctz 64 w.toNat = Lib.ctzFrom 64 w.toNat := by simp [Lib.ctz, h0]
  rw [hc]
  obtain ⟨k, hkk⟩ : ∃ k, k = Lib.ctzFrom 64 w.toNat := ⟨_, rfl⟩
  rw [← hkk] at hm hk ⊢
  have hp : 0 < 2 ^ k := Nat.two_pow_pos k
  have bitw : ∀ j, w.getLsbD j = if j < k then false else (2 * m + 1).testBit (j - k) := by
    intro j
    rw [BitVec.getLsbD, hm]
    have := Nat.testBit_two_pow_mul_add (2 * m + 1) (b := 0) hp j
    rw [Nat.add_zero] at this
    rw [this]
    simp
  have hs : (w - 1#64).toNat = 2 ^ k * (2 * m) + (2 ^ k - 1) := by
    have e1 : (w - 1#64).toNat = w.toNat - 1 := by
      rw [BitVec.toNat_sub]
      have := w.isLt
      simp; omega
    rw [e1, hm, Nat.mul_add]
    omega
  have bits : ∀ j, (w - 1#64).getLsbD j = if j < k then (2 ^ k - 1).testBit j else (2 * m).testBit (j - k) := by
    intro j
    rw [BitVec.getLsbD, hs]
    exact Nat.testBit_two_pow_mul_add (2 * m) (by omega) j
  refine ⟨hk, ?_, ?_, ?_⟩
  · rw [bitw]; simp
  · intro j hj; rw [bitw]; simp [hj]
  · intro j
    rw [BitVec.getLsbD_and, bitw, bits]
    by_cases h1 : j < k
    · simp [h1]
    · simp only [h1, if_false]
      by_cases h2 : j = k
      · subst h2; simp
      · obtain ⟨i, hi⟩ : ∃ i, j - k = i + 1 := ⟨j - k - 1, by omega⟩
        rw [hi, Nat.testBit_succ, Nat.testBit_succ]
        have e1 : (2 * m + 1) / 2 = m := by omega
        have e2 : 2 * m / 2 = m := by omega
        rw [e1, e2]; simp [h2]
def wmem (i : Nat) (w : BitVec 64) : List Nat := ((List.range 64).filter w.getLsbD).map fun j => 64 * i + j
theorem filter_range_lt {p q : Nat → Bool} {n k : Nat} (hk : k < n) (h1 : ∀ j, j < k → p j = false) (hpk : p k = true) (hq : ∀ j, q j = (p j && decide (j ≠ k))) : (List.range n).filter p = k :: (List.range n).filter q := by
  have e : n = k + (1 + (n - k - 1)) := by omega
  rw [e, range_split k, range_split 1, List.filter_append, List.filter_append, List.map_append, List.filter_append, List.filter_append]
  have a1 : (List.range k).filter p = [] := by
    rw [List.filter_eq_nil_iff]; intro j hj; simp [h1 j (by simpa using hj)]
  have a2 : (List.range k).filter q = [] := by
    rw [List.filter_eq_nil_iff]; intro j hj; simp [hq, h1 j (by simpa using hj)]
  have a3 : (List.map (fun i => k + i) (List.range 1)).filter p = [k] := by simp [hpk]
  have a4 : (List.map (fun i => k + i) (List.range 1)).filter q = [] := by simp [hq]
  rw [a1, a2, a3, a4]
  simp only [List.nil_append, List.singleton_append, List.cons.injEq, true_and]
  apply List.filter_congr
  intro j hj
  simp only [List.map_map, List.mem_map, List.mem_range, Function.comp] at hj
  obtain ⟨i, _, rfl⟩ := hj
  rw [hq]
  have : ¬ (k + (1 + i) = k) := by omega
  simp
theorem wmem_cons (i : Nat) (w : BitVec 64) (h : w ≠ 0#64) : wmem i w = (64 * i + Lib.ctz 64 w.toNat) :: wmem i (w &&& (w - 1#64)) := by
  obtain ⟨h1, h2, h3, h4⟩ := ctz_lt w h
  unfold wmem
  rw [filter_range_lt h1 h3 h2 h4]
  rfl
theorem wmem_zero (i : Nat) : wmem i 0#64 = [] := by simp [wmem]
theorem memsTo_word (c : Cl) (i : Nat) : memsTo c (64 * i + 64) = memsTo c (64 * i) ++ wmem i (wd c i) := by
  unfold memsTo wmem
  rw [range_split, List.filter_append, List.filter_map]
  congr 2
  apply List.filter_congr
  intro j hj
  have hj' : j < 64 := by simpa using hj
  simp [wd_get c i hj']
def restW (c : Cl) (i : Nat) (w : BitVec 64) : List Nat := wmem i w ++ (mems c).drop (memsTo c (64 * i + 64)).length
theorem memsTo_prefix (c : Cl) {i j : Nat} (h : i ≤ j) : memsTo c i <+: memsTo c j := by
  obtain ⟨d, rfl⟩ : ∃ d, j = i + d := ⟨j - i, by omega⟩
  unfold memsTo
  rw [range_split, List.filter_append]
  exact List.prefix_append _ _
theorem mems_from (c : Cl) {i : Nat} (hi : i < 4) : mems c = memsTo c (64 * i) ++ (wmem i (wd c i) ++ (mems c).drop (memsTo c (64 * i + 64)).length) := by
  obtain ⟨r, hr⟩ := memsTo_prefix c (i := 64 * i + 64) (j := 256) (by omega)
  have e : mems c = memsTo c (64 * i + 64) ++ r := hr.symm
  rw [e]
  rw [List.drop_left, memsTo_word, List.append_assoc]
end Go.HL.Kl
namespace Go.HL.Kl.Mc
open Go Go.HL Go.HL.Kl
structure Nd where
  op : Int
  set : Cl
  n : Int
  mn : Int
  mx : Int
  kids : Int
  deriving DecidableEq
def En (x : Nd) : List Value := .int .i8 x.op :: (Ec x.set ++ [.int .i64 x.n, .int .i64 x.mn, .int .i64 x.mx, .int .i64 x.kids])
instance : Enc En 9 := ⟨fun x => by simp [En, Enc.len], fun x v hv => by
  simp only [En, List.mem_cons, List.mem_append, List.not_mem_nil, or_false] at hv
  rcases hv with rfl | hv | rfl | rfl | rfl | rfl
  · rfl
  · exact Ec_one _ v hv
  all_goals rfl⟩
def flds (x : Nd) : Bool :=
  decide (1 ≤ x.op ∧ x.op ≤ 8) && (decide (x.op = 1) || decide (x.set = 0)) && (decide (x.op = 7 ∨ x.op = 8) || decide (x.n = 0)) &&
  (if x.op = 6 then decide (0 ≤ x.mn ∧ x.mn ≤ 255 ∧ (x.mx = -1 ∨ x.mn ≤ x.mx ∧ x.mx ≤ 255)) else decide (x.mn = 0 ∧ x.mx = 0))
def kidsOk (x : Nd) : Bool :=
  if x.op = 6 ∨ x.op = 7 then decide (x.kids = 1) else if x.op = 4 then decide (x.kids = 0 ∨ 2 ≤ x.kids) else if x.op = 5 then decide (2 ≤ x.kids) else decide (x.kids = 0)
def ndOk (x : Nd) : Bool := flds x && kidsOk x
inductive F
  | nil
  | nd (x : Nd) (ks r : F)
namespace F
def flat : F → List Nd
  | nil => []
  | nd x ks r => x :: (ks.flat ++ r.flat)
def num : F → Nat
  | nil => 0
  | nd _ _ r => r.num + 1
def size : F → Nat
  | nil => 0
  | nd _ ks r => ks.size + r.size + 1
def wf : F → Prop
  | nil => True
  | nd x ks r => ndOk x = true ∧ (ks.num : Int) = x.kids ∧ ks.wf ∧ r.wf
def depth : F → Nat
  | nil => 0
  | nd _ ks r => max (ks.depth + 1) r.depth
theorem flat_size : ∀ f : F, f.flat.length = f.size
  | nil => rfl
  | nd x ks r => by simp only [flat, List.length_cons, List.length_append, flat_size ks, flat_size r, size]
end F
end Go.HL.Kl.Mc
namespace Go.HL.Kl.Mc
open Go Go.HL Go.HL.Kl
def gate (x : Nd) (en : List Bool) (g : Nat) : Option (List Bool × Nat) :=
  if x.op = 8 then (if 1 ≤ x.n ∧ x.n ≤ en.length ∧ en[x.n.toNat - 1]? = some true then some (en, g) else none)
  else if x.op = 7 then (if x.n = en.length + 1 ∧ x.n ≤ 255 ∧ g < 64 then some (en ++ [false], g + 1) else none)
  else some (en, g)
def kidsN (step : Nat → List Bool → Option (Nat × List Bool)) : Nat → Nat → List Bool → Option (Nat × List Bool)
  | 0, i, en => some (i, en)
  | k + 1, i, en => match step i en with
    | none => none
    | some (i', en') => kidsN step k i' en'
def shN (re : List Nd) : Nat → Nat → List Bool → Nat → Option (Nat × List Bool)
  | 0, _, _, _ => none
  | f + 1, i, en, g => match re[i]? with
    | none => none
    | some x => if ndOk x = true then
        match gate x en g with
        | none => none
        | some (en1, g1) => match kidsN (fun i en => shN re f i en g1) x.kids.toNat (i + 1) en1 with
          | none => none
          | some (i2, en2) => some (i2, if x.op = 7 then en2.set (x.n.toNat - 1) true else en2)
      else none
theorem ndOk_kids {x : Nd} (h : ndOk x = true) : 0 ≤ x.kids := by
  simp only [ndOk, Bool.and_eq_true, kidsOk] at h
  have h := h.2
  split at h
  · simp at h; omega
  · split at h
    · simp at h; omega
    · split at h <;> simp at h <;> omega
structure TreeAt (re : List Nd) (d i i' : Nat) (x : Nd) (ks : F) : Prop where
  wf : (F.nd x ks .nil).wf
  flat : re.drop i = x :: (ks.flat ++ re.drop i')
  dep : ks.depth + 1 ≤ d
  len : i' = i + 1 + ks.size
  le : i' ≤ re.length
structure ForAt (re : List Nd) (d k i i' : Nat) (ks : F) : Prop where
  wf : ks.wf
  num : ks.num = k
  flat : re.drop i = ks.flat ++ re.drop i'
  dep : ks.depth ≤ d
  len : i' = i + ks.size
  le : i ≤ re.length → i' ≤ re.length
theorem kidsN_for {re : List Nd} {d : Nat} {step : Nat → List Bool → Option (Nat × List Bool)} (hs : ∀ i en i' en', step i en = some (i', en') → ∃ x ks, TreeAt re d i i' x ks) :
    ∀ k i en i' en', kidsN step k i en = some (i', en') → ∃ ks, ForAt re d k i i' ks := by
  intro k
  induction k with
  | zero =>
    intro i en i' en' h
    simp only [kidsN, Option.some.injEq, Prod.mk.injEq] at h
    obtain ⟨rfl, rfl⟩ := h
    exact ⟨.nil, trivial, rfl, rfl, Nat.zero_le _, rfl, id⟩
  | succ k ih =>
    intro i en i' en' h
    simp only [kidsN] at h
    split at h
    · cases h
    · rename_i j en1 hst
      obtain ⟨x, ks, ht⟩ := hs _ _ _ _ hst
      obtain ⟨r, hr⟩ := ih _ _ _ _ h
      refine ⟨.nd x ks r, ⟨ht.wf.1, ht.wf.2.1, ht.wf.2.2.1, hr.wf⟩, by simp [F.num, hr.num], by rw [ht.flat, hr.flat]; simp [F.flat], ?_, by rw [hr.len, ht.len]; simp only [F.size]; omega, fun _ => hr.le ht.le⟩
      simp only [F.depth]
      have := ht.dep; have := hr.dep
      omega
theorem shN_tree {re : List Nd} : ∀ f i en g i' en', shN re f i en g = some (i', en') → ∃ x ks, TreeAt re f i i' x ks := by
  intro f
  induction f with
  | zero => intro i en g i' en' h; cases h
  | succ f ih =>
    intro i en g i' en' h
    simp only [shN] at h
    split at h
    · cases h
    · rename_i x hx
      have hlt : i < re.length := (List.getElem?_eq_some_iff.1 hx).1
      split at h
      · rename_i hok
        split at h
        · cases h
        · rename_i en1 g1 hg
          split at h
          · cases h
          · rename_i i2 en2 hk
            simp only [Option.some.injEq, Prod.mk.injEq] at h
            obtain ⟨rfl, -⟩ := h
            obtain ⟨ks, hks⟩ := kidsN_for (fun i en i' en' h => ih i en g1 i' en' h) _ _ _ _ _ hk
            have h0 := ndOk_kids hok
            refine ⟨x, ks, ⟨hok, by rw [hks.num]; omega, hks.wf, trivial⟩, ?_, by have := hks.dep; omega, by rw [hks.len], hks.le hlt⟩
            rw [List.drop_eq_getElem_cons hlt, hks.flat]
            rw [List.getElem?_eq_getElem hlt] at hx
            simp at hx
            rw [hx]
      · cases h
def times (x : Nd) : Nat := if x.op = 6 then (if x.mx < 0 then x.mn.toNat + 1 else max x.mx.toNat 1) else 1
namespace F
def weight : F → Nat
  | nil => 0
  | nd x ks r => (1 + times x * ks.weight) + r.weight
end F
def cut (n : Nat) : Nat := min n 16385
theorem cut_add (a b : Nat) : cut (cut a + cut b) = cut (a + b) := by unfold cut; omega
theorem cut_mul {t a : Nat} (ht : 1 ≤ t) : cut (1 + t * cut a) = cut (1 + t * a) := by
  unfold cut
  rcases Nat.le_total a 16385 with h | h
  · rw [Nat.min_eq_left h]
  · rw [Nat.min_eq_right h]
    have h1 : 16385 ≤ t * 16385 := Nat.le_mul_of_pos_left _ ht
    have h2 : t * 16385 ≤ t * a := Nat.mul_le_mul_left _ h
    omega
theorem times_pos (x : Nd) : 1 ≤ times x := by
  unfold times
  split
  · split <;> omega
  · exact Nat.le_refl _
theorem times_le {x : Nd} (h : ndOk x = true) : times x ≤ 256 := by
  simp only [ndOk, flds, Bool.and_eq_true] at h
  have h := h.1.2
  unfold times
  split
  · rename_i h6
    rw [if_pos h6] at h
    simp at h
    split <;> omega
  · omega
structure Shp (re : List Nd) (x : Nd) (ks : F) : Prop where
  wf : (F.nd x ks .nil).wf
  flat : re = x :: ks.flat
  dep : ks.depth + 1 ≤ 260
  weight : (F.nd x ks .nil).weight ≤ 16384
open Classical in
noncomputable def shapedP (re : List Nd) : Bool := decide (∃ en, shN re 260 0 [] 0 = some (re.length, en)) && decide (∃ x ks, Shp re x ks)
end Go.HL.Kl.Mc
