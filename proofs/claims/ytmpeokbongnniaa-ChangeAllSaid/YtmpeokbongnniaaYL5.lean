/- Proved: the law ChangeAll returns true for all its arguments. Conditions: none. -/
import Derived.Test.YtmpeokbongnniaaYC13
import Derived.Test.YtmpeokbongnniaaHlB
import Derived.Test.YtmpeokbongnniaaMK1Z
import Derived.Test.YtmpeokbongnniaaRows
namespace Go.Proofs.Ytmpeokbongnniaa
open Go Go.HL Go.Proofs Go.HL.Kl Go.HL.Kl.Mc
theorem open_nd : Opens Try.prog 85 En (fun _ t => -128 ≤ t.op ∧ t.op < 128) :=
  open_struct6 Try.underlying85 rfl (by kernel_rfl) (by kernel_rfl) (by kernel_rfl) (by kernel_rfl) (by kernel_rfl) (by kernel_rfl) (open_i8 Try.underlying80) (open_cl Try.underlying83 Try.underlying81 (by kernel_rfl) (by kernel_rfl)) (open_i64 Try.underlying3) (open_i64 Try.underlying3) (open_i64 Try.underlying3) (open_i64 Try.underlying3) fun w a b c d e f ha _ _ _ _ _ => ⟨⟨a, b, c, d, e, f⟩, rfl, ha⟩
theorem open_struct5 {P : Program} {t : TypeId} {f0 f1 f2 f3 f4 : Field} {α0 α1 α2 α3 α4 γ : Type} {E0 : α0 → List Value} {E1 : α1 → List Value} {E2 : α2 → List Value} {E3 : α3 → List Value} {E4 : α4 → List Value} {E : γ → List Value} {M0 : World → α0 → Prop} {M1 : World → α1 → Prop} {M2 : World → α2 → Prop} {M3 : World → α3 → Prop} {M4 : World → α4 → Prop} {Mem : World → γ → Prop}
    (ht : P.underlying t = some (.struct #[f0, f1, f2, f3, f4])) (h0 : f0.offset = 0) (h1 : f1.offset = P.cellsOf f0.type) (h2 : f2.offset = P.cellsOf f0.type + P.cellsOf f1.type) (h3 : f3.offset = P.cellsOf f0.type + P.cellsOf f1.type + P.cellsOf f2.type) (h4 : f4.offset = P.cellsOf f0.type + P.cellsOf f1.type + P.cellsOf f2.type + P.cellsOf f3.type) (hc : P.cellsOf t = P.cellsOf f0.type + P.cellsOf f1.type + P.cellsOf f2.type + P.cellsOf f3.type + P.cellsOf f4.type)
    (o0 : Opens P f0.type E0 M0) (o1 : Opens P f1.type E1 M1) (o2 : Opens P f2.type E2 M2) (o3 : Opens P f3.type E3 M3) (o4 : Opens P f4.type E4 M4) (mk : ∀ w x0 x1 x2 x3 x4, M0 w x0 → M1 w x1 → M2 w x2 → M3 w x3 → M4 w x4 → ∃ z, E z = E0 x0 ++ (E1 x1 ++ (E2 x2 ++ (E3 x3 ++ (E4 x4)))) ∧ Mem w z) : Opens P t E Mem := by
  refine ⟨fun enc w fuel cs x h hw => ?_⟩
  obtain ⟨hl, n, hf⟩ := trod_fields ht h hw
  obtain ⟨y0, e0, w0⟩ := hf 0 f0 rfl
  obtain ⟨y1, e1, w1⟩ := hf 1 f1 rfl
  obtain ⟨y2, e2, w2⟩ := hf 2 f2 rfl
  obtain ⟨y3, e3, w3⟩ := hf 3 f3 rfl
  obtain ⟨y4, e4, w4⟩ := hf 4 f4 rfl
  obtain ⟨x0, g0, m0⟩ := o0.out enc w _ _ _ e0 w0
  obtain ⟨x1, g1, m1⟩ := o1.out enc w _ _ _ e1 w1
  obtain ⟨x2, g2, m2⟩ := o2.out enc w _ _ _ e2 w2
  obtain ⟨x3, g3, m3⟩ := o3.out enc w _ _ _ e3 w3
  obtain ⟨x4, g4, m4⟩ := o4.out enc w _ _ _ e4 w4
  obtain ⟨z, hz, hm⟩ := mk w x0 x1 x2 x3 x4 m0 m1 m2 m3 m4
  refine ⟨z, ?_, hm⟩
  rw [hz, ← g0, ← g1, ← g2, ← g3, ← g4, h0, h1, h2, h3, h4, List.drop_zero, List.take_of_length_le (l := cs.drop (P.cellsOf f0.type + _ + _ + _)) (by rw [List.length_drop]; omega), ← cells_split, ← cells_split, ← cells_split, List.take_append_drop]
theorem open_piece : Opens Try.prog 36 Epc (fun w p => Rd Eb w p.t.v p.t.xs ∧ p.t.xs.length ≤ 140737488351232 ∧ -9223372036854775808 ≤ p.g ∧ p.g ≤ 9223372036854775807) :=
  open_struct2 Try.underlying36 rfl (by kernel_rfl) (by kernel_rfl) (open_i64 Try.underlying3) (open_slice' Try.underlying23 (by kernel_rfl) (by decide) (of_decide_eq_true (by kernel_rfl)) (open_u8 Try.underlying5)) fun w g t hg ht => by
    have h1 : Try.prog.bytesOf 5 = 1 := by kernel_rfl
    obtain ⟨q1, q2, q3⟩ := ht
    rw [h1, Nat.mul_one] at q3
    exact ⟨⟨g, t⟩, rfl, q1, q3, hg⟩
structure CaseV where
  f : Sl Pc
  x : Sl UInt8
  first : Int
  all : Bool
  most : Int
def Ecase (c : CaseV) : List Value := [c.f.v, c.x.v, .int .i64 c.first, .bool c.all, .int .i64 c.most]
theorem open_case : Opens Try.prog 41 Ecase (fun w c => ((Rd Epc w c.f.v c.f.xs ∧ (∀ p ∈ c.f.xs, Rd Eb w p.t.v p.t.xs)) ∧ Rd Eb w c.x.v c.x.xs) ∧ (∀ p ∈ c.f.xs, p.t.xs.length ≤ 140737488351232 ∧ -9223372036854775808 ≤ p.g ∧ p.g ≤ 9223372036854775807) ∧ c.f.xs.length * 32 ≤ 140737488351232 ∧ c.x.xs.length ≤ 140737488351232 ∧ (-9223372036854775808 ≤ c.first ∧ c.first ≤ 9223372036854775807) ∧ (-9223372036854775808 ≤ c.most ∧ c.most ≤ 9223372036854775807)) :=
  open_struct5 Try.underlying41 rfl (by kernel_rfl) (by kernel_rfl) (by kernel_rfl) (by kernel_rfl) (by kernel_rfl) (open_slice' (E := Epc) Try.underlying37 (by kernel_rfl) (by decide) (of_decide_eq_true (by kernel_rfl)) open_piece) (open_slice' Try.underlying23 (by kernel_rfl) (by decide) (of_decide_eq_true (by kernel_rfl)) (open_u8 Try.underlying5)) (open_i64 Try.underlying3) (open_bool' Try.underlying4) (open_i64 Try.underlying3)
    fun w f x a b c hf hx ha _ hc => by
      have h1 : Try.prog.bytesOf 5 = 1 := by kernel_rfl
      have h2 : Try.prog.bytesOf 36 = 32 := by kernel_rfl
      obtain ⟨p1, p2, p3⟩ := hf
      obtain ⟨q1, q2, q3⟩ := hx
      rw [h1, Nat.mul_one] at q3
      rw [h2] at p3
      exact ⟨⟨f, x, a, b, c⟩, rfl, ⟨⟨p1, fun p hp => (p2 p hp).1⟩, q1⟩, fun p hp => (p2 p hp).2, p3, q3, ha, hc⟩
theorem own : ownKnob Try.prog.godebug = none := by kernel_rfl
theorem laidOut : laidOutB Try.prog = true := by kernel_rfl

theorem changeAll_lifted (os : Os) (started : os.Started) (H : Type) (enc : TypeId × Value → H) :
    ReturnsInHanded {} Try.checked os 5 .any (Rows.changeAllSpec.pre6 enc Try.prog Try.f5 Rows.changeAllRow.domain false) (Rows.changeAllSpec.post enc Try.prog Try.f5 false true false false) := by
  refine lift_law (C := Try.checked) (bt := 4) own started (by kernel_rfl) Try.func5
    (ChangeSpec.witness6 (enc := enc) (C := Try.checked) false ⟨#[], #[.slice none 0 0, .agg #[.slice none 0 0, .slice none 0 0, .int .i64 0, .bool false, .int .i64 0]], []⟩ 8 (by kernel_rfl) (by kernel_rfl) (by kernel_rfl) (by kernel_rfl)) rfl rfl Try.underlying4 laidOut (by kernel_rfl) (fun H ds h => by
      match ds, h with
      | [_, _], _ => rfl) ?_
  intro W args ds ps hA hval hsz
  have hA0 : DataW.TrodAll enc Try.prog W 0 (fun _ => true) true [22, 41] args.toList ds ps := hA
  obtain ⟨v0, vs0, d0, ds0, p0, q0, hargs, rfl, rfl, h0, r0⟩ := ChangeShapes.trodAll_cons hA0
  obtain ⟨v1, vs1, d1, ds1, p1, q1, rfl, rfl, rfl, h1, r1⟩ := ChangeShapes.trodAll_cons r0
  obtain ⟨rfl, rfl, rfl⟩ := ChangeShapes.trodAll_nil r1
  obtain rfl : args = #[v0, v1] := by cases args; simp_all
  have w0 : ∀ n ∈ DataW.weights Try.prog 22 d0, n ≤ reachBytes := fun n hn => hsz n (DataW.weights_mem_each (ts := [22, 41]) (ds := [d0, d1]) (j := 0) rfl rfl n hn)
  have w1 : ∀ n ∈ DataW.weights Try.prog 41 d1, n ≤ reachBytes := fun n hn => hsz n (DataW.weights_mem_each (ts := [22, 41]) (ds := [d0, d1]) (j := 1) rfl rfl n hn)
  obtain ⟨r, rfl, hr_r, hm_r, hb_r⟩ := arg_slice (_E := En) Try.underlying22 (open_slice' Try.underlying22 (by kernel_rfl) (by decide) (of_decide_eq_true (by kernel_rfl)) open_nd) (hval 0 22 v0 rfl rfl) h0 w0
  obtain ⟨c, rfl, hm_c⟩ := arg_struct Try.underlying41 open_case (hval 1 41 v1 rfl rfl) h1 w1
  exact (changeAll_fn r.a r.c r.xs hm_r c.f.a c.f.c c.f.xs c.x.a c.x.c c.x.xs c.first c.all c.most hm_c.2.2.2.2.1).calls W ⟨hr_r, hm_c.1⟩ (Has.nil W)

theorem changeAll_holds : Rows.ChangeAllSaid :=
  OpenClaim.holds_of_wide 5 Try.f5 rfl rfl rfl rfl rfl rfl rfl ⟨rfl, rfl, rfl, rfl, rfl⟩ rfl rfl rfl rfl rfl (by kernel_rfl) Try.func5 (by kernel_rfl)
    (of_decide_eq_true (by kernel_rfl)) (by unfold Func.isWrapper; first | (rw [if_pos (by decide +kernel)]; kernel_rfl) | (rw [if_neg (by decide +kernel)]; exact ⟨rfl, rfl⟩))
    (fun os started H enc _ => changeAll_lifted os started H enc)
end Go.Proofs.Ytmpeokbongnniaa
