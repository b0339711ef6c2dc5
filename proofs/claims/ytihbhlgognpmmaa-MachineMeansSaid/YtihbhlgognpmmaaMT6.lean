/- Nodes and instructions as structs: compared. Conditions: none. -/
import Derived.Test.YtihbhlgognpmmaaMT5
import Derived.Test.YtihbhlgognpmmaaHlB
namespace Go.HL.Kl.Mc
open Go Go.HL Go.HL.Kl
section
variable {P : Program} {κ : Cx} {L : Loc} {H : Hp} {ty t t' : TypeId} {x y : Operand}
theorem fq_cls {w : World} {n e b e1 b1 : Nat} {k' : IntKind} {xs ys : Array Value} {l : List (Nat × Nat)} {c d : Kl.Cl} {r : Bool} [TU P e (.array 4 e1)] [TG P e false] [TI P e 4 b] [TU P e1 (.int k')] [TG P e1 true] [TI P e1 1 b1]
    (hx : xs.extract 1 5 = (Ec c).toArray) (hy : ys.extract 1 5 = (Ec d).toArray) (h : FQ P w (n + 1) xs ys l r) : FQ P w (n + 1) xs ys ((e, 1) :: l) (decide (c = d) && r) := by
  refine .cons (part_agg hx) (part_agg hy) ?_ h
  have := re_arr (P := P) (t := e) w n (j := .u64) (Ic c) (Ic d) (Ic_len c) (Ic_len d)
  rw [← Ec_ints, ← Ec_ints] at this
  rw [this]
  congr 1
  exact decide_eq_decide.2 Ic_inj
theorem nd_fq {a c i e b be : Nat} {k1 k2 ke : IntKind} [TU P a (.int k1)] [TG P a true] [TU P i (.int k2)] [TG P i true] [TU P c (.array 4 e)] [TG P c false] [TI P c 4 b] [TU P e (.int ke)] [TG P e true] [TI P e 1 be] (w : World) (p q : Nd) : FQ P w 9998 (En p).toArray (En q).toArray [(a, 0), (c, 1), (i, 5), (i, 6), (i, 7), (i, 8)] (decide (p = q)) := by
  have h : FQ P w 9998 (En p).toArray (En q).toArray [(a, 0), (c, 1), (i, 5), (i, 6), (i, 7), (i, 8)] _ :=
    .int (j := .i8) (p := p.op) (q := q.op) rfl rfl (fq_cls (c := p.set) (d := q.set) rfl rfl (.int (j := .i64) (p := p.n) (q := q.n) rfl rfl (.int (j := .i64) (p := p.mn) (q := q.mn) rfl rfl (.int (j := .i64) (p := p.mx) (q := q.mx) rfl rfl (.int (j := .i64) (p := p.kids) (q := q.kids) rfl rfl .nil)))))
  have e : (p.op == q.op && (decide (p.set = q.set) && (p.n == q.n && (p.mn == q.mn && (p.mx == q.mx && (p.kids == q.kids && true)))))) = decide (p = q) := by
    cases p; cases q
    simp only [Nd.mk.injEq, Bool.and_true]
    rw [Bool.eq_iff_iff]
    simp
  rw [← e]; exact h
theorem s_neq_nd {a c i e b be : Nat} {k1 k2 ke : IntKind} [EG P t] [TU P a (.int k1)] [TG P a true] [TU P i (.int k2)] [TG P i true] [TU P c (.array 4 e)] [TG P c false] [TI P c 4 b] [TU P e (.int ke)] [TG P e true] [TI P e 1 be] [TQ P t [(a, 0), (c, 1), (i, 5), (i, 6), (i, 7), (i, 8)]] {p q : Nd} (hx : ev L x = some (.agg (En p).toArray)) (hy : ev L y = some (.agg (En q).toArray)) : Step P κ (.binOp .neq t x y t') ty L H (.bool (!decide (p = q))) :=
  s_neq_st hx hy fun w => nd_fq w p q
theorem s_eql_nd {a c i e b be : Nat} {k1 k2 ke : IntKind} [EG P t] [TU P a (.int k1)] [TG P a true] [TU P i (.int k2)] [TG P i true] [TU P c (.array 4 e)] [TG P c false] [TI P c 4 b] [TU P e (.int ke)] [TG P e true] [TI P e 1 be] [TQ P t [(a, 0), (c, 1), (i, 5), (i, 6), (i, 7), (i, 8)]] {p q : Nd} (hx : ev L x = some (.agg (En p).toArray)) (hy : ev L y = some (.agg (En q).toArray)) : Step P κ (.binOp .eql t x y t') ty L H (.bool (decide (p = q))) :=
  s_eql_st hx hy fun w => nd_fq w p q
theorem in_fq {a c i e b be : Nat} {k1 k2 ke : IntKind} [TU P a (.int k1)] [TG P a true] [TU P i (.int k2)] [TG P i true] [TU P c (.array 4 e)] [TG P c false] [TI P c 4 b] [TU P e (.int ke)] [TG P e true] [TI P e 1 be] (w : World) (p q : In) : FQ P w 9998 (Ein p).toArray (Ein q).toArray [(a, 0), (c, 1), (i, 5), (i, 6)] (decide (p = q)) := by
  have h : FQ P w 9998 (Ein p).toArray (Ein q).toArray [(a, 0), (c, 1), (i, 5), (i, 6)] _ :=
    .int (j := .i8) (p := p.op) (q := q.op) rfl rfl (fq_cls (c := p.set) (d := q.set) rfl rfl (.int (j := .i64) (p := p.x) (q := q.x) rfl rfl (.int (j := .i64) (p := p.y) (q := q.y) rfl rfl .nil)))
  have e : (p.op == q.op && (decide (p.set = q.set) && (p.x == q.x && (p.y == q.y && true)))) = decide (p = q) := by
    cases p; cases q
    simp only [In.mk.injEq, Bool.and_true]
    rw [Bool.eq_iff_iff]
    simp
  rw [← e]; exact h
theorem s_neq_in {a c i e b be : Nat} {k1 k2 ke : IntKind} [EG P t] [TU P a (.int k1)] [TG P a true] [TU P i (.int k2)] [TG P i true] [TU P c (.array 4 e)] [TG P c false] [TI P c 4 b] [TU P e (.int ke)] [TG P e true] [TI P e 1 be] [TQ P t [(a, 0), (c, 1), (i, 5), (i, 6)]] {p q : In} (hx : ev L x = some (.agg (Ein p).toArray)) (hy : ev L y = some (.agg (Ein q).toArray)) : Step P κ (.binOp .neq t x y t') ty L H (.bool (!decide (p = q))) :=
  s_neq_st hx hy fun w => in_fq w p q
theorem s_eql_in {a c i e b be : Nat} {k1 k2 ke : IntKind} [EG P t] [TU P a (.int k1)] [TG P a true] [TU P i (.int k2)] [TG P i true] [TU P c (.array 4 e)] [TG P c false] [TI P c 4 b] [TU P e (.int ke)] [TG P e true] [TI P e 1 be] [TQ P t [(a, 0), (c, 1), (i, 5), (i, 6)]] {p q : In} (hx : ev L x = some (.agg (Ein p).toArray)) (hy : ev L y = some (.agg (Ein q).toArray)) : Step P κ (.binOp .eql t x y t') ty L H (.bool (decide (p = q))) :=
  s_eql_st hx hy fun w => in_fq w p q
end
end Go.HL.Kl.Mc
