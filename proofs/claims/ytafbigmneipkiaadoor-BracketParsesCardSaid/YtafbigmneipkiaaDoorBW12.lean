/- Part of the proofs over this seat: see the text that holds the theorem. Conditions: each theorem bears its own. -/
import Derived.Test.YtafbigmneipkiaaDoorHlB
import Derived.Test.YtafbigmneipkiaaDoorBW11
import Derived.Test.YtafbigmneipkiaaDoorBW4
import Derived.Test.YtafbigmneipkiaaDoorMB6
namespace Go.Proofs.YtafbigmneipkiaaDoor
open Go Go.HL Go.Proofs Go.Tab Go.HL.Kl Go.HL.Kl.Bk
theorem ert_cls {x : Rt} {j : Nat} {u : Value} (h : (Ec x.c)[j]? = some u) : (Ert x)[5 + j]? = some u := by
  rw [Ert, List.getElem?_append_right (by simp), List.getElem?_append_left]
  · simpa using h
  · rcases Nat.lt_or_ge j (Ec x.c).length with h' | h'
    · simpa using h'
    · rw [List.getElem?_eq_none h'] at h; cases h
theorem rSignN_fn (la : Option Addr) (lc : Nat) (l : List Mk) (i : Int) (hi : i < 0) (n : Int) : HL.Fn Tryd.prog 31 [.slice la l.length lc, .int .i64 i, .int .u8 n] (fun w => Rd Em w (.slice la l.length lc) l) [] (fun v _ => v = .bool false) := by
  refine fn_of Tryd.func31 rfl rfl rfl fun w0 hw => ?_
  refine c_seq fun _ hK1 => ?_
  refine c_region ?_
  refine o_step rfl (s_assign rfl) ?_
  refine o_nil ?_
  refine x_then (hK1 _ _ ?_)
  refine c_seq fun _ hK2 => ?_
  refine c_region ?_
  refine o_step rfl (s_move rfl) ?_
  refine o_step rfl (s_geq_f rfl rfl (by omega)) ?_
  refine o_step rfl (s_move rfl) ?_
  refine o_no rfl rfl rfl rfl ?_
  refine o_no rfl rfl rfl rfl ?_
  refine o_no rfl rfl rfl rfl ?_
  refine o_no rfl rfl rfl rfl ?_
  refine o_step rfl (s_pick_f rfl rfl) ?_
  refine o_step rfl (s_move rfl) ?_
  refine o_no rfl rfl rfl rfl ?_
  refine o_no rfl rfl rfl rfl ?_
  refine o_no rfl rfl rfl rfl ?_
  refine o_no rfl rfl rfl rfl ?_
  refine o_no rfl rfl rfl rfl ?_
  refine o_no rfl rfl rfl rfl ?_
  refine o_step rfl (s_pick_f rfl rfl) ?_
  refine o_step rfl (s_move rfl) ?_
  refine o_no rfl rfl rfl rfl ?_
  refine o_no rfl rfl rfl rfl ?_
  refine o_no rfl rfl rfl rfl ?_
  refine o_no rfl rfl rfl rfl ?_
  refine o_no rfl rfl rfl rfl ?_
  refine o_no rfl rfl rfl rfl ?_
  refine o_no rfl rfl rfl rfl ?_
  refine o_step rfl (s_pick_f rfl rfl) ?_
  refine o_step rfl (s_assign rfl) ?_
  refine o_nil ?_
  refine x_then (hK2 _ _ ?_)
  refine c_ret ?_
  refine ?_
  exact x_ret rfl (.tmp rfl (.nil)) (rfl)
theorem rSignZ_fn (la : Option Addr) (lc : Nat) (l : List Mk) (i : Int) (b : UInt8) (n : Int) (hn : n = b.toNat) : HL.Fn Tryd.prog 31 [.slice la l.length lc, .int .i64 i, .int .u8 n] (fun w => Rd Em w (.slice la l.length lc) l) [] (fun v _ => v = .bool (decide (0 ≤ i) && sg l i.toNat b)) := by
  rcases Int.lt_or_le i 0 with h | h
  · rw [show (decide (0 ≤ i) && sg l i.toNat b) = false by rw [decide_eq_false (by omega)]; rfl]
    exact rSignN_fn la lc l i h n
  · obtain ⟨k, rfl⟩ : ∃ k : Nat, i = (k : Int) := ⟨i.toNat, by omega⟩
    rw [show (decide ((0 : Int) ≤ k) && sg l (k : Int).toNat b) = sg l k b by rw [decide_eq_true (by omega), Int.toNat_natCast]; rfl]
    exact rSign_fn la lc l k b n hn
set_option maxHeartbeats 2000000 in
theorem rParse_fn (la : Option Addr) (lc : Nat) (l : List Mk) (at0 : Int) : HL.Fn Tryd.prog 12 [.slice la l.length lc, .int .i64 at0] (fun w => Rd Em w (.slice la l.length lc) l) [] (fun v _ => v = .tuple #[.agg (Ec (parseP l at0).1).toArray, .int .i64 (parseP l at0).2.1, .int .i64 (parseP l at0).2.2]) := by
  refine fn_of Tryd.func12 rfl rfl rfl fun w0 hw => ?_
  have hsl := hw.sl
  have hbl := hsl.le
  refine c_seq fun _ hK1 => ?_
  refine c_region ?_
  refine o_alloc (l := Ec 0#256) (by rw [Ec_zero]; rfl) rfl fun b4 => ?_
  refine o_step rfl (s_assign rfl) ?_
  refine o_step rfl (s_assign rfl) ?_
  refine o_nil ?_
  refine x_then (hK1 _ _ ?_)
  refine c_seq fun _ hK2 => ?_
  refine c_seq fun _ hK3 => ?_
  refine c_region ?_
  refine o_step rfl (s_move rfl) ?_
  refine o_step rfl (s_move rfl) ?_
  refine o_callP (rSignZ_fn la lc l at0 91 91 (by decide)) rfl rfl rfl (fun w st => (RdK.old0 hw).out w st) (fun v14 hv14 => ?_)
  by_cases hneg : at0 < 0 ∨ sg l at0.toNat 91 = false
  · skip
    have hz : (decide (0 ≤ at0) && sg l at0.toNat 91) = false := by rcases hneg with h | h; (rw [decide_eq_false (by omega)]; rfl); (rw [h, Bool.and_false])
    rw [hz] at hv14
    subst hv14
    have hP : parseP l at0 = (0, 0, 1) := by unfold parseP; rw [if_pos hneg]
    refine o_step rfl (s_not rfl) ?_
    refine o_nil ?_
    refine x_then (hK3 _ _ ?_)
    refine c_true rfl ?_
    refine c_seq fun _ hK4 => ?_
    refine c_region ?_
    refine o_step rfl (step_cast (v' := .agg (Ec 0#256).toArray) (s_build0 rfl) (by rw [Ec_zero]; rfl)) ?_
    refine o_stW rfl rfl upA (Ec_len _) (Ec_len _) (Ec_one _) ?_
    refine o_step rfl (s_assign rfl) ?_
    refine o_step rfl (s_assign rfl) ?_
    refine o_nil ?_
    refine x_then (hK4 _ _ ?_)
    refine c_ret ?_
    refine x_then_ret (?_)
    exact x_ret rfl (.agg inferInstance inferInstance rfl (RdPK.cels (.own meA)) (Ec_len _) (.tmp rfl (.tmp rfl (.nil)))) (by rw [hP]; rfl)
  · skip
    have hneg := _root_.not_or.1 hneg
    obtain ⟨d, rfl⟩ : ∃ d : Nat, at0 = (d : Int) := ⟨at0.toNat, by omega⟩
    have h91 : sg l d 91 = true := by have := hneg.2; rw [Int.toNat_natCast] at this; simpa using this
    rw [Int.toNat_natCast, h91, decide_eq_true (by omega)] at hv14
    change v14 = .bool true at hv14
    subst hv14
    have hdl := sg_lt h91
    refine o_step rfl (s_not rfl) ?_
    refine o_nil ?_
    refine x_then (hK3 _ _ ?_)
    refine c_false rfl ?_
    refine c_skip ?_
    refine x_then (hK2 _ _ ?_)
    refine c_seq fun _ hK5 => ?_
    refine c_region ?_
    refine o_step rfl (s_move rfl) ?_
    refine o_step rfl (s_add rfl rfl (by omega)) ?_
    refine o_step rfl (s_assign rfl) ?_
    refine o_nil ?_
    refine x_then (hK5 _ _ ?_)
    refine c_seq fun _ hK6 => ?_
    refine c_region ?_
    refine o_step rfl (s_move rfl) ?_
    refine o_step rfl (s_move rfl) ?_
    refine o_callP (rSign_fn la lc l (d + 1) 94 94 (by decide)) rfl rfl rfl (fun w st => (RdK.old0 hw).out w st) (fun v21 hv21 => ?_)
    subst hv21
    cases h94 : sg l (d + 1) 94
    · skip
      have hLPe : loopP l d (l.length + 1) (d + 1 + if sg l (d + 1) 94 then 1 else 0) true 0 = loopP l d (l.length + 1) (d + 1) true 0 := by rw [h94]; rfl
      refine o_step rfl (s_assign rfl) ?_
      refine o_nil ?_
      refine x_then (hK6 _ _ ?_)
      refine c_seq fun _ hK7 => ?_
      refine c_seq fun _ hK8 => ?_
      refine c_region ?_
      refine o_step rfl (s_move rfl) ?_
      refine o_nil ?_
      refine x_then (hK8 _ _ ?_)
      refine c_false rfl ?_
      refine c_skip ?_
      refine x_then (hK7 _ _ ?_)
      refine c_seq fun _ hK9 => ?_
      refine c_region ?_
      refine o_step rfl (s_move rfl) ?_
      refine o_step rfl (s_assign rfl) ?_
      refine o_nil ?_
      refine x_then (hK9 _ _ ?_)
      refine c_seq fun _ hK10 => ?_
      refine c_region ?_
      refine o_step rfl (step_cast (v' := .agg (Ec 0#256).toArray) (s_build0 rfl) (by rw [Ec_zero]; rfl)) ?_
      refine o_alloc (l := Ec 0#256) (by rw [Ec_zero]; rfl) rfl fun b10 => ?_
      refine o_stW rfl rfl upA (Ec_len _) (Ec_len _) (Ec_one _) ?_
      refine o_nil ?_
      refine x_then (hK10 _ _ ?_)
      refine c_seq fun _ hK11 => ?_
      refine c_block ?_
      -- not carried: 5 6
      refine c_loop4 (fun (n : Nat) (i : Nat) (f : Bool) (c : Cl) => i ≤ l.length ∧ ((f = true ↔ (i : Int) = ((d : Int) + 1)) ∧ ((d : Int) + 1) ≤ (i : Int)) ∧ ((f = true ∨ sg l i 93 = false) ∧ l.length + 1 ≤ n + i ∧ loopP l d (l.length + 1) (d + 1 + if sg l (d + 1) 94 then 1 else 0) true 0 = loopP l d n i f c ∨ f = false ∧ sg l i 93 = true ∧ loopP l d (l.length + 1) (d + 1 + if sg l (d + 1) 94 then 1 else 0) true 0 = .ok c i)) (fun (n : Nat) (i : Nat) (f : Bool) (c : Cl) => [(7, .int .i64 i)]) [(0, _), (1, _), (4, _), (8, _), (9, _), (10, _)] (fun (n : Nat) (i : Nat) (f : Bool) (c : Cl) => (b10, .cells (Ec c).toArray 28 (0, 0)) :: [(b4, .cells (Ec 0#256).toArray 28 (0, 0))]) (fun (n : Nat) (i : Nat) (f : Bool) (c : Cl) => l.length + 1 - i) (l.length + 1) (d + 1) true 0 ⟨by omega, ⟨⟨fun _ => rfl, fun _ => rfl⟩, Int.le_refl _⟩, .inl ⟨.inl rfl, by omega, hLPe⟩⟩ sbA sbA (by repeat (first | exact HSub.refl _ | exact HSub.nil | refine HSub.takeC pkB ?_)) ?_
      rintro n i f c ⟨hi, ⟨hfi, hge⟩, hD⟩
      rcases hD with ⟨hrun, hn, hLP⟩ | ⟨rfl, h93, hLP⟩
      · skip
        cases hf : f
        · skip
          rw [hf] at hrun hLP hfi
          have h93 : sg l i 93 = false := hrun.resolve_left (by decide)
          refine c_seq fun _ hK12 => ?_
          refine c_seq fun _ hK13 => ?_
          refine c_region ?_
          refine o_step rfl (s_move rfl) ?_
          refine o_step rfl (s_move rfl) ?_
          refine o_step rfl (s_eql_f rfl rfl (fun e => by have := hfi.2 e; cases this)) ?_
          refine o_step rfl (s_move rfl) ?_
          refine o_yes rfl rfl ?_
          refine o_step rfl (s_move rfl) ?_
          refine o_yes rfl rfl ?_
          refine o_step rfl (s_move rfl) ?_
          refine o_yes rfl rfl ?_
          refine o_callP (rSign_fn la lc l (i) 93 93 (by decide)) rfl rfl rfl (fun w st => (RdK.old0 hw).out w st) (fun v33 hv33 => ?_)
          rw [h93] at hv33
          subst hv33
          refine o_yes rfl rfl ?_
          refine o_step rfl (s_not rfl) ?_
          refine o_step rfl (s_pick_f rfl rfl) ?_
          refine o_nil ?_
          refine x_then (hK13 _ _ ?_)
          refine c_true rfl ?_
          refine c_skip ?_
          refine x_then (hK12 _ _ ?_)
          refine c_block ?_
          refine c_seq fun _ hK14 => ?_
          refine c_region ?_
          refine o_step rfl (s_move rfl) ?_
          refine o_step rfl (s_move rfl) ?_
          refine o_step rfl (s_move rfl) ?_
          refine o_callP (rItem_fn la lc l i d false (((d : Int) + 1)) hfi) rfl rfl rfl (fun w st => (RdK.old0 hw).out w st) (fun v39 ⟨x, hv39, hx⟩ => ?_)
          subst hv39
          obtain ⟨n, rfl⟩ : ∃ m, n = m + 1 := ⟨n - 1, by omega⟩
          rcases hit : itemP l d i false with t | ⟨e1, p1⟩
          · skip
            rw [hit] at hx
            obtain ⟨x1, x2, x3⟩ := hx
            have hnx := itemP_next hit
            refine o_alloc (l := Ert zRt) (by rw [ert_zero]; rfl) rfl fun b11 => ?_
            refine o_stW rfl rfl upA (ert_len _) (ert_len _) (ert_one _) ?_
            refine o_nil ?_
            refine x_then (hK14 _ _ ?_)
            refine c_seq fun _ hK15 => ?_
            refine c_seq fun _ hK16 => ?_
            refine c_region ?_
            refine o_step rfl (s_field rfl rfl (by decide)) ?_
            refine o_step rfl (s_ld rfl (.own meA rfl)) ?_
            refine o_step rfl (s_eql_f rfl rfl (by omega)) ?_
            refine o_nil ?_
            refine x_then (hK16 _ _ ?_)
            refine c_false rfl ?_
            refine c_skip ?_
            refine x_then (hK15 _ _ ?_)
            refine c_seq fun _ hK17 => ?_
            refine c_seq fun _ hK18 => ?_
            refine c_region ?_
            refine o_step rfl (s_field rfl rfl (by decide)) ?_
            refine o_step rfl (s_ld rfl (.own meA rfl)) ?_
            refine o_step rfl (s_neq_f rfl rfl (by omega)) ?_
            refine o_nil ?_
            refine x_then (hK18 _ _ ?_)
            refine c_false rfl ?_
            refine c_skip ?_
            refine x_then (hK17 _ _ ?_)
            refine c_seq fun _ hK19 => ?_
            refine c_region ?_
            refine o_step rfl (s_ldB rfl (RdPK.cels (.own meA)) (Ec_len _)) ?_
            refine o_step rfl (s_field rfl rfl (by decide)) ?_
            refine o_step rfl (s_ldB rfl (RdPK.cels (RdPK.own' (off := 5) (cs := Ec x.c) meA (fun j u h => ert_cls h))) (Ec_len _)) ?_
            refine o_callP (rOr_fn c x.c) rfl rfl rfl (fun _ _ => trivial) (fun v56 hv56 => ?_)
            rw [x3] at hv56
            subst hv56
            refine o_stW rfl rfl upA (Ec_len _) (Ec_len _) (Ec_one _) ?_
            refine o_nil ?_
            refine x_then (hK19 _ _ ?_)
            refine c_region ?_
            refine o_step rfl (s_field rfl rfl (by decide)) ?_
            refine o_step rfl (step_cast (v' := .int .i64 (t.next : Int)) (s_ld rfl (.own meA rfl)) (congrArg _ x2)) ?_
            refine o_step rfl (s_assign rfl) ?_
            refine o_nil ?_
            refine x_block ?_
            exact x_then (x_inv (n, t.next, false, c ||| t.set) ⟨hnx.2, ⟨⟨(fun h => by cases h), (fun e => by dsimp only at e; exfalso; omega)⟩, by dsimp only; omega⟩, by cases hs : sg l t.next 93 with | false => exact .inl ⟨.inr rfl, by first | omega | (dsimp only; omega), by rw [hLP]; simp only [loopP, hit]; rw [if_neg (by rw [hs]; decide)]⟩ | true => exact .inr ⟨rfl, rfl, by rw [hLP]; simp only [loopP, hit]; rw [if_pos hs]⟩⟩ (by first | omega | (dsimp only; omega)) sbA (by repeat (first | exact HSub.refl _ | exact HSub.nil | refine HSub.takeC pkB ?_)))
          · skip
            rw [hit] at hx
            obtain ⟨x1, x2, x3⟩ := hx
            have hPL : loopP l d (l.length + 1) (d + 1 + if sg l (d + 1) 94 then 1 else 0) true 0 = .bad e1 p1 := by rw [hLP]; simp only [loopP, hit]
            by_cases he32 : e1 = 32
            · skip
              subst he32
              obtain rfl : p1 = d := by rcases itemP_bad hit with ⟨_, h⟩ | ⟨h, _⟩; exact h; omega
              refine o_alloc (l := Ert zRt) (by rw [ert_zero]; rfl) rfl fun b11 => ?_
              refine o_stW rfl rfl upA (ert_len _) (ert_len _) (ert_one _) ?_
              refine o_nil ?_
              refine x_then (hK14 _ _ ?_)
              refine c_seq fun _ hK20 => ?_
              refine c_seq fun _ hK21 => ?_
              refine c_region ?_
              refine o_step rfl (s_field rfl rfl (by decide)) ?_
              refine o_step rfl (s_ld rfl (.own meA rfl)) ?_
              refine o_step rfl (s_eql_t rfl rfl (by omega)) ?_
              refine o_nil ?_
              refine x_then (hK21 _ _ ?_)
              refine c_true rfl ?_
              refine c_seq fun _ hK22 => ?_
              refine c_region ?_
              refine o_step rfl (step_cast (v' := .agg (Ec 0#256).toArray) (s_build0 rfl) (by rw [Ec_zero]; rfl)) ?_
              refine o_step rfl (s_move rfl) ?_
              refine o_stW rfl rfl upA (Ec_len _) (Ec_len _) (Ec_one _) ?_
              refine o_step rfl (s_assign rfl) ?_
              refine o_step rfl (s_assign rfl) ?_
              refine o_nil ?_
              refine x_then (hK22 _ _ ?_)
              refine c_ret ?_
              refine x_then_ret (x_block_ret (x_then_ret (x_block_ret (x_then_ret (?_)))))
              exact x_ret rfl (.agg inferInstance inferInstance rfl (RdPK.cels (.own meA)) (Ec_len _) (.tmp rfl (.tmp rfl (.nil)))) (by rw [parse_bad h91 hPL]; rfl)
            · skip
              have hxf : x.f = (p1 : Int) := x2.resolve_left he32
              refine o_alloc (l := Ert zRt) (by rw [ert_zero]; rfl) rfl fun b11 => ?_
              refine o_stW rfl rfl upA (ert_len _) (ert_len _) (ert_one _) ?_
              refine o_nil ?_
              refine x_then (hK14 _ _ ?_)
              refine c_seq fun _ hK23 => ?_
              refine c_seq fun _ hK24 => ?_
              refine c_region ?_
              refine o_step rfl (s_field rfl rfl (by decide)) ?_
              refine o_step rfl (s_ld rfl (.own meA rfl)) ?_
              refine o_step rfl (s_eql_f rfl rfl (by omega)) ?_
              refine o_nil ?_
              refine x_then (hK24 _ _ ?_)
              refine c_false rfl ?_
              refine c_skip ?_
              refine x_then (hK23 _ _ ?_)
              refine c_seq fun _ hK25 => ?_
              refine c_seq fun _ hK26 => ?_
              refine c_region ?_
              refine o_step rfl (s_field rfl rfl (by decide)) ?_
              refine o_step rfl (s_ld rfl (.own meA rfl)) ?_
              refine o_step rfl (s_neq_t rfl rfl (by omega)) ?_
              refine o_nil ?_
              refine x_then (hK26 _ _ ?_)
              refine c_true rfl ?_
              refine c_seq fun _ hK27 => ?_
              refine c_drawE ([(b11, .cells (Ert x).toArray 92 (0, 0))]) (fun i => false) ?_
              refine e_take 0 rfl (by kernel_rfl) (by kernel_rfl) (by kernel_rfl) (by kernel_rfl) (fun _ _ => rfl) rfl (by repeat (first | exact HSub.refl _ | exact HSub.nil | refine HSub.takeC pkB ?_)) (step_cast (v' := .agg (Ec 0#256).toArray) (s_build0 rfl) (by rw [Ec_zero]; rfl)) ?_
              refine e_take 1 rfl (by kernel_rfl) (by kernel_rfl) (by kernel_rfl) (by kernel_rfl) (fun _ _ => rfl) rfl (by repeat (first | exact HSub.refl _ | exact HSub.nil | refine HSub.takeC pkB ?_)) (s_field rfl rfl (by decide)) ?_
              refine e_take 2 rfl (by kernel_rfl) (by kernel_rfl) (by kernel_rfl) (by kernel_rfl) (fun _ _ => rfl) rfl (by repeat (first | exact HSub.refl _ | exact HSub.nil | refine HSub.takeC pkB ?_)) (s_ld rfl (.own meA rfl)) ?_
              refine e_take 3 rfl (by kernel_rfl) (by kernel_rfl) (by kernel_rfl) (by kernel_rfl) (fun _ _ => rfl) rfl (by repeat (first | exact HSub.refl _ | exact HSub.nil | refine HSub.takeC pkB ?_)) (s_field rfl rfl (by decide)) ?_
              refine e_take 4 rfl (by kernel_rfl) (by kernel_rfl) (by kernel_rfl) (by kernel_rfl) (fun _ _ => rfl) rfl (by repeat (first | exact HSub.refl _ | exact HSub.nil | refine HSub.takeC pkB ?_)) (s_ld rfl (.own meA rfl)) ?_
              refine e_one 5 rfl (by kernel_rfl) ?_
              refine o_stW rfl rfl upA (Ec_len _) (Ec_len _) (Ec_one _) ?_
              refine o_nil ?_
              refine x_oneS (by repeat (first | exact HSub.refl _ | exact HSub.nil | refine HSub.takeC pkB ?_)) ?_
              refine e_one 6 rfl (by kernel_rfl) ?_
              refine o_step rfl (s_assign rfl) ?_
              refine o_nil ?_
              refine x_oneS (by repeat (first | exact HSub.refl _ | exact HSub.nil | refine HSub.takeC pkB ?_)) ?_
              refine e_one 7 rfl (by kernel_rfl) ?_
              refine o_step rfl (s_assign rfl) ?_
              refine o_nil ?_
              refine x_oneS (by repeat (first | exact HSub.refl _ | exact HSub.nil | refine HSub.takeC pkB ?_)) ?_
              refine e_done (by kernel_rfl) ?_
              refine x_then (hK27 _ _ ?_)
              refine c_ret ?_
              refine x_then_ret (x_block_ret (x_then_ret (x_block_ret (x_then_ret (?_)))))
              exact x_ret rfl (.agg inferInstance inferInstance rfl (RdPK.cels (.own meA)) (Ec_len _) (.tmp rfl (.tmp rfl (.nil)))) (by rw [parse_bad h91 hPL, ← hxf, ← x1]; rfl)
        · skip
          rw [hf] at hrun hLP hfi
          refine c_seq fun _ hK28 => ?_
          refine c_seq fun _ hK29 => ?_
          refine c_region ?_
          refine o_step rfl (s_move rfl) ?_
          refine o_step rfl (s_move rfl) ?_
          refine o_step rfl (s_eql_t rfl rfl (hfi.1 rfl)) ?_
          refine o_step rfl (s_move rfl) ?_
          refine o_no rfl rfl rfl rfl ?_
          refine o_no rfl rfl rfl rfl ?_
          refine o_no rfl rfl rfl rfl ?_
          refine o_no rfl rfl rfl rfl ?_
          refine o_step rfl (s_pick_t rfl rfl) ?_
          refine o_nil ?_
          refine x_then (hK29 _ _ ?_)
          refine c_true rfl ?_
          refine c_skip ?_
          refine x_then (hK28 _ _ ?_)
          refine c_block ?_
          refine c_seq fun _ hK30 => ?_
          refine c_region ?_
          refine o_step rfl (s_move rfl) ?_
          refine o_step rfl (s_move rfl) ?_
          refine o_step rfl (s_move rfl) ?_
          refine o_callP (rItem_fn la lc l i d true (((d : Int) + 1)) hfi) rfl rfl rfl (fun w st => (RdK.old0 hw).out w st) (fun v39 ⟨x, hv39, hx⟩ => ?_)
          subst hv39
          obtain ⟨n, rfl⟩ : ∃ m, n = m + 1 := ⟨n - 1, by omega⟩
          rcases hit : itemP l d i true with t | ⟨e1, p1⟩
          · skip
            rw [hit] at hx
            obtain ⟨x1, x2, x3⟩ := hx
            have hnx := itemP_next hit
            refine o_alloc (l := Ert zRt) (by rw [ert_zero]; rfl) rfl fun b11 => ?_
            refine o_stW rfl rfl upA (ert_len _) (ert_len _) (ert_one _) ?_
            refine o_nil ?_
            refine x_then (hK30 _ _ ?_)
            refine c_seq fun _ hK31 => ?_
            refine c_seq fun _ hK32 => ?_
            refine c_region ?_
            refine o_step rfl (s_field rfl rfl (by decide)) ?_
            refine o_step rfl (s_ld rfl (.own meA rfl)) ?_
            refine o_step rfl (s_eql_f rfl rfl (by omega)) ?_
            refine o_nil ?_
            refine x_then (hK32 _ _ ?_)
            refine c_false rfl ?_
            refine c_skip ?_
            refine x_then (hK31 _ _ ?_)
            refine c_seq fun _ hK33 => ?_
            refine c_seq fun _ hK34 => ?_
            refine c_region ?_
            refine o_step rfl (s_field rfl rfl (by decide)) ?_
            refine o_step rfl (s_ld rfl (.own meA rfl)) ?_
            refine o_step rfl (s_neq_f rfl rfl (by omega)) ?_
            refine o_nil ?_
            refine x_then (hK34 _ _ ?_)
            refine c_false rfl ?_
            refine c_skip ?_
            refine x_then (hK33 _ _ ?_)
            refine c_seq fun _ hK35 => ?_
            refine c_region ?_
            refine o_step rfl (s_ldB rfl (RdPK.cels (.own meA)) (Ec_len _)) ?_
            refine o_step rfl (s_field rfl rfl (by decide)) ?_
            refine o_step rfl (s_ldB rfl (RdPK.cels (RdPK.own' (off := 5) (cs := Ec x.c) meA (fun j u h => ert_cls h))) (Ec_len _)) ?_
            refine o_callP (rOr_fn c x.c) rfl rfl rfl (fun _ _ => trivial) (fun v56 hv56 => ?_)
            rw [x3] at hv56
            subst hv56
            refine o_stW rfl rfl upA (Ec_len _) (Ec_len _) (Ec_one _) ?_
            refine o_nil ?_
            refine x_then (hK35 _ _ ?_)
            refine c_region ?_
            refine o_step rfl (s_field rfl rfl (by decide)) ?_
            refine o_step rfl (step_cast (v' := .int .i64 (t.next : Int)) (s_ld rfl (.own meA rfl)) (congrArg _ x2)) ?_
            refine o_step rfl (s_assign rfl) ?_
            refine o_nil ?_
            refine x_block ?_
            exact x_then (x_inv (n, t.next, false, c ||| t.set) ⟨hnx.2, ⟨⟨(fun h => by cases h), (fun e => by dsimp only at e; exfalso; omega)⟩, by dsimp only; omega⟩, by cases hs : sg l t.next 93 with | false => exact .inl ⟨.inr rfl, by first | omega | (dsimp only; omega), by rw [hLP]; simp only [loopP, hit]; rw [if_neg (by rw [hs]; decide)]⟩ | true => exact .inr ⟨rfl, rfl, by rw [hLP]; simp only [loopP, hit]; rw [if_pos hs]⟩⟩ (by first | omega | (dsimp only; omega)) sbA (by repeat (first | exact HSub.refl _ | exact HSub.nil | refine HSub.takeC pkB ?_)))
          · skip
            rw [hit] at hx
            obtain ⟨x1, x2, x3⟩ := hx
            have hPL : loopP l d (l.length + 1) (d + 1 + if sg l (d + 1) 94 then 1 else 0) true 0 = .bad e1 p1 := by rw [hLP]; simp only [loopP, hit]
            by_cases he32 : e1 = 32
            · skip
              subst he32
              obtain rfl : p1 = d := by rcases itemP_bad hit with ⟨_, h⟩ | ⟨h, _⟩; exact h; omega
              refine o_alloc (l := Ert zRt) (by rw [ert_zero]; rfl) rfl fun b11 => ?_
              refine o_stW rfl rfl upA (ert_len _) (ert_len _) (ert_one _) ?_
              refine o_nil ?_
              refine x_then (hK30 _ _ ?_)
              refine c_seq fun _ hK36 => ?_
              refine c_seq fun _ hK37 => ?_
              refine c_region ?_
              refine o_step rfl (s_field rfl rfl (by decide)) ?_
              refine o_step rfl (s_ld rfl (.own meA rfl)) ?_
              refine o_step rfl (s_eql_t rfl rfl (by omega)) ?_
              refine o_nil ?_
              refine x_then (hK37 _ _ ?_)
              refine c_true rfl ?_
              refine c_seq fun _ hK38 => ?_
              refine c_region ?_
              refine o_step rfl (step_cast (v' := .agg (Ec 0#256).toArray) (s_build0 rfl) (by rw [Ec_zero]; rfl)) ?_
              refine o_step rfl (s_move rfl) ?_
              refine o_stW rfl rfl upA (Ec_len _) (Ec_len _) (Ec_one _) ?_
              refine o_step rfl (s_assign rfl) ?_
              refine o_step rfl (s_assign rfl) ?_
              refine o_nil ?_
              refine x_then (hK38 _ _ ?_)
              refine c_ret ?_
              refine x_then_ret (x_block_ret (x_then_ret (x_block_ret (x_then_ret (?_)))))
              exact x_ret rfl (.agg inferInstance inferInstance rfl (RdPK.cels (.own meA)) (Ec_len _) (.tmp rfl (.tmp rfl (.nil)))) (by rw [parse_bad h91 hPL]; rfl)
            · skip
              have hxf : x.f = (p1 : Int) := x2.resolve_left he32
              refine o_alloc (l := Ert zRt) (by rw [ert_zero]; rfl) rfl fun b11 => ?_
              refine o_stW rfl rfl upA (ert_len _) (ert_len _) (ert_one _) ?_
              refine o_nil ?_
              refine x_then (hK30 _ _ ?_)
              refine c_seq fun _ hK39 => ?_
              refine c_seq fun _ hK40 => ?_
              refine c_region ?_
              refine o_step rfl (s_field rfl rfl (by decide)) ?_
              refine o_step rfl (s_ld rfl (.own meA rfl)) ?_
              refine o_step rfl (s_eql_f rfl rfl (by omega)) ?_
              refine o_nil ?_
              refine x_then (hK40 _ _ ?_)
              refine c_false rfl ?_
              refine c_skip ?_
              refine x_then (hK39 _ _ ?_)
              refine c_seq fun _ hK41 => ?_
              refine c_seq fun _ hK42 => ?_
              refine c_region ?_
              refine o_step rfl (s_field rfl rfl (by decide)) ?_
              refine o_step rfl (s_ld rfl (.own meA rfl)) ?_
              refine o_step rfl (s_neq_t rfl rfl (by omega)) ?_
              refine o_nil ?_
              refine x_then (hK42 _ _ ?_)
              refine c_true rfl ?_
              refine c_seq fun _ hK43 => ?_
              refine c_drawE ([(b11, .cells (Ert x).toArray 92 (0, 0))]) (fun i => false) ?_
              refine e_take 0 rfl (by kernel_rfl) (by kernel_rfl) (by kernel_rfl) (by kernel_rfl) (fun _ _ => rfl) rfl (by repeat (first | exact HSub.refl _ | exact HSub.nil | refine HSub.takeC pkB ?_)) (step_cast (v' := .agg (Ec 0#256).toArray) (s_build0 rfl) (by rw [Ec_zero]; rfl)) ?_
              refine e_take 1 rfl (by kernel_rfl) (by kernel_rfl) (by kernel_rfl) (by kernel_rfl) (fun _ _ => rfl) rfl (by repeat (first | exact HSub.refl _ | exact HSub.nil | refine HSub.takeC pkB ?_)) (s_field rfl rfl (by decide)) ?_
              refine e_take 2 rfl (by kernel_rfl) (by kernel_rfl) (by kernel_rfl) (by kernel_rfl) (fun _ _ => rfl) rfl (by repeat (first | exact HSub.refl _ | exact HSub.nil | refine HSub.takeC pkB ?_)) (s_ld rfl (.own meA rfl)) ?_
              refine e_take 3 rfl (by kernel_rfl) (by kernel_rfl) (by kernel_rfl) (by kernel_rfl) (fun _ _ => rfl) rfl (by repeat (first | exact HSub.refl _ | exact HSub.nil | refine HSub.takeC pkB ?_)) (s_field rfl rfl (by decide)) ?_
              refine e_take 4 rfl (by kernel_rfl) (by kernel_rfl) (by kernel_rfl) (by kernel_rfl) (fun _ _ => rfl) rfl (by repeat (first | exact HSub.refl _ | exact HSub.nil | refine HSub.takeC pkB ?_)) (s_ld rfl (.own meA rfl)) ?_
              refine e_one 5 rfl (by kernel_rfl) ?_
              refine o_stW rfl rfl upA (Ec_len _) (Ec_len _) (Ec_one _) ?_
              refine o_nil ?_
              refine x_oneS (by repeat (first | exact HSub.refl _ | exact HSub.nil | refine HSub.takeC pkB ?_)) ?_
              refine e_one 6 rfl (by kernel_rfl) ?_
              refine o_step rfl (s_assign rfl) ?_
              refine o_nil ?_
              refine x_oneS (by repeat (first | exact HSub.refl _ | exact HSub.nil | refine HSub.takeC pkB ?_)) ?_
              refine e_one 7 rfl (by kernel_rfl) ?_
              refine o_step rfl (s_assign rfl) ?_
              refine o_nil ?_
              refine x_oneS (by repeat (first | exact HSub.refl _ | exact HSub.nil | refine HSub.takeC pkB ?_)) ?_
              refine e_done (by kernel_rfl) ?_
              refine x_then (hK43 _ _ ?_)
              refine c_ret ?_
              refine x_then_ret (x_block_ret (x_then_ret (x_block_ret (x_then_ret (?_)))))
              exact x_ret rfl (.agg inferInstance inferInstance rfl (RdPK.cels (.own meA)) (Ec_len _) (.tmp rfl (.tmp rfl (.nil)))) (by rw [parse_bad h91 hPL, ← hxf, ← x1]; rfl)
      · skip
        refine c_seq fun _ hK44 => ?_
        refine c_seq fun _ hK45 => ?_
        refine c_region ?_
        refine o_step rfl (s_move rfl) ?_
        refine o_step rfl (s_move rfl) ?_
        refine o_step rfl (s_eql_f rfl rfl (fun e => by have := hfi.2 e; cases this)) ?_
        refine o_step rfl (s_move rfl) ?_
        refine o_yes rfl rfl ?_
        refine o_step rfl (s_move rfl) ?_
        refine o_yes rfl rfl ?_
        refine o_step rfl (s_move rfl) ?_
        refine o_yes rfl rfl ?_
        refine o_callP (rSign_fn la lc l (i) 93 93 (by decide)) rfl rfl rfl (fun w st => (RdK.old0 hw).out w st) (fun v33 hv33 => ?_)
        rw [h93] at hv33
        subst hv33
        refine o_yes rfl rfl ?_
        refine o_step rfl (s_not rfl) ?_
        refine o_step rfl (s_pick_f rfl rfl) ?_
        refine o_nil ?_
        refine x_then (hK45 _ _ ?_)
        refine c_false rfl ?_
        refine c_exit ?_
        refine x_then_exit ?_
        refine x_then_exit ?_
        refine x_block_exit ?_
        refine x_then (hK11 _ _ ?_)
        refine c_seq fun _ hK46 => ?_
        refine c_seq fun _ hK47 => ?_
        refine c_region ?_
        refine o_step rfl (s_move rfl) ?_
        refine o_nil ?_
        refine x_then (hK47 _ _ ?_)
        refine c_false rfl ?_
        refine c_skip ?_
        refine x_then (hK46 _ _ ?_)
        refine c_seq fun _ hK48 => ?_
        refine c_region ?_
        refine o_step rfl (s_ldB rfl (RdPK.cels (.own meA)) (Ec_len _)) ?_
        refine o_step rfl (s_move rfl) ?_
        refine o_step rfl (s_add rfl rfl (by omega)) ?_
        refine o_stW rfl rfl upA (Ec_len _) (Ec_len _) (Ec_one _) ?_
        refine o_step rfl (s_assign rfl) ?_
        refine o_step rfl (s_assign rfl) ?_
        refine o_nil ?_
        refine x_then (hK48 _ _ ?_)
        refine c_ret ?_
        refine ?_
        exact x_ret rfl (.agg inferInstance inferInstance rfl (RdPK.cels (.own meA)) (Ec_len _) (.tmp rfl (.tmp rfl (.nil)))) (by rw [parse_good h91 hLP, h94]; rfl)
    · skip
      have hdl1 := sg_lt h94
      have hLPe : loopP l d (l.length + 1) (d + 1 + if sg l (d + 1) 94 then 1 else 0) true 0 = loopP l d (l.length + 1) (d + 1 + 1) true 0 := by rw [h94]; rfl
      refine o_step rfl (s_assign rfl) ?_
      refine o_nil ?_
      refine x_then (hK6 _ _ ?_)
      refine c_seq fun _ hK49 => ?_
      refine c_seq fun _ hK50 => ?_
      refine c_region ?_
      refine o_step rfl (s_move rfl) ?_
      refine o_nil ?_
      refine x_then (hK50 _ _ ?_)
      refine c_true rfl ?_
      refine c_region ?_
      refine o_step rfl (s_move rfl) ?_
      refine o_step rfl (s_add rfl rfl (by omega)) ?_
      refine o_step rfl (s_assign rfl) ?_
      refine o_nil ?_
      refine x_then (hK49 _ _ ?_)
      refine c_seq fun _ hK51 => ?_
      refine c_region ?_
      refine o_step rfl (s_move rfl) ?_
      refine o_step rfl (s_assign rfl) ?_
      refine o_nil ?_
      refine x_then (hK51 _ _ ?_)
      refine c_seq fun _ hK52 => ?_
      refine c_region ?_
      refine o_step rfl (step_cast (v' := .agg (Ec 0#256).toArray) (s_build0 rfl) (by rw [Ec_zero]; rfl)) ?_
      refine o_alloc (l := Ec 0#256) (by rw [Ec_zero]; rfl) rfl fun b10 => ?_
      refine o_stW rfl rfl upA (Ec_len _) (Ec_len _) (Ec_one _) ?_
      refine o_nil ?_
      refine x_then (hK52 _ _ ?_)
      refine c_seq fun _ hK53 => ?_
      refine c_block ?_
      -- not carried: 5 6
      refine c_loop4 (fun (n : Nat) (i : Nat) (f : Bool) (c : Cl) => i ≤ l.length ∧ ((f = true ↔ (i : Int) = ((d : Int) + 1 + 1)) ∧ ((d : Int) + 1 + 1) ≤ (i : Int)) ∧ ((f = true ∨ sg l i 93 = false) ∧ l.length + 1 ≤ n + i ∧ loopP l d (l.length + 1) (d + 1 + if sg l (d + 1) 94 then 1 else 0) true 0 = loopP l d n i f c ∨ f = false ∧ sg l i 93 = true ∧ loopP l d (l.length + 1) (d + 1 + if sg l (d + 1) 94 then 1 else 0) true 0 = .ok c i)) (fun (n : Nat) (i : Nat) (f : Bool) (c : Cl) => [(7, .int .i64 i)]) [(0, _), (1, _), (4, _), (8, _), (9, _), (10, _)] (fun (n : Nat) (i : Nat) (f : Bool) (c : Cl) => (b10, .cells (Ec c).toArray 28 (0, 0)) :: [(b4, .cells (Ec 0#256).toArray 28 (0, 0))]) (fun (n : Nat) (i : Nat) (f : Bool) (c : Cl) => l.length + 1 - i) (l.length + 1) (d + 1 + 1) true 0 ⟨by omega, ⟨⟨fun _ => rfl, fun _ => rfl⟩, Int.le_refl _⟩, .inl ⟨.inl rfl, by omega, hLPe⟩⟩ sbA sbA (by repeat (first | exact HSub.refl _ | exact HSub.nil | refine HSub.takeC pkB ?_)) ?_
      rintro n i f c ⟨hi, ⟨hfi, hge⟩, hD⟩
      rcases hD with ⟨hrun, hn, hLP⟩ | ⟨rfl, h93, hLP⟩
      · skip
        cases hf : f
        · skip
          rw [hf] at hrun hLP hfi
          have h93 : sg l i 93 = false := hrun.resolve_left (by decide)
          refine c_seq fun _ hK54 => ?_
          refine c_seq fun _ hK55 => ?_
          refine c_region ?_
          refine o_step rfl (s_move rfl) ?_
          refine o_step rfl (s_move rfl) ?_
          refine o_step rfl (s_eql_f rfl rfl (fun e => by have := hfi.2 e; cases this)) ?_
          refine o_step rfl (s_move rfl) ?_
          refine o_yes rfl rfl ?_
          refine o_step rfl (s_move rfl) ?_
          refine o_yes rfl rfl ?_
          refine o_step rfl (s_move rfl) ?_
          refine o_yes rfl rfl ?_
          refine o_callP (rSign_fn la lc l (i) 93 93 (by decide)) rfl rfl rfl (fun w st => (RdK.old0 hw).out w st) (fun v33 hv33 => ?_)
          rw [h93] at hv33
          subst hv33
          refine o_yes rfl rfl ?_
          refine o_step rfl (s_not rfl) ?_
          refine o_step rfl (s_pick_f rfl rfl) ?_
          refine o_nil ?_
          refine x_then (hK55 _ _ ?_)
          refine c_true rfl ?_
          refine c_skip ?_
          refine x_then (hK54 _ _ ?_)
          refine c_block ?_
          refine c_seq fun _ hK56 => ?_
          refine c_region ?_
          refine o_step rfl (s_move rfl) ?_
          refine o_step rfl (s_move rfl) ?_
          refine o_step rfl (s_move rfl) ?_
          refine o_callP (rItem_fn la lc l i d false (((d : Int) + 1 + 1)) hfi) rfl rfl rfl (fun w st => (RdK.old0 hw).out w st) (fun v39 ⟨x, hv39, hx⟩ => ?_)
          subst hv39
          obtain ⟨n, rfl⟩ : ∃ m, n = m + 1 := ⟨n - 1, by omega⟩
          rcases hit : itemP l d i false with t | ⟨e1, p1⟩
          · skip
            rw [hit] at hx
            obtain ⟨x1, x2, x3⟩ := hx
            have hnx := itemP_next hit
            refine o_alloc (l := Ert zRt) (by rw [ert_zero]; rfl) rfl fun b11 => ?_
            refine o_stW rfl rfl upA (ert_len _) (ert_len _) (ert_one _) ?_
            refine o_nil ?_
            refine x_then (hK56 _ _ ?_)
            refine c_seq fun _ hK57 => ?_
            refine c_seq fun _ hK58 => ?_
            refine c_region ?_
            refine o_step rfl (s_field rfl rfl (by decide)) ?_
            refine o_step rfl (s_ld rfl (.own meA rfl)) ?_
            refine o_step rfl (s_eql_f rfl rfl (by omega)) ?_
            refine o_nil ?_
            refine x_then (hK58 _ _ ?_)
            refine c_false rfl ?_
            refine c_skip ?_
            refine x_then (hK57 _ _ ?_)
            refine c_seq fun _ hK59 => ?_
            refine c_seq fun _ hK60 => ?_
            refine c_region ?_
            refine o_step rfl (s_field rfl rfl (by decide)) ?_
            refine o_step rfl (s_ld rfl (.own meA rfl)) ?_
            refine o_step rfl (s_neq_f rfl rfl (by omega)) ?_
            refine o_nil ?_
            refine x_then (hK60 _ _ ?_)
            refine c_false rfl ?_
            refine c_skip ?_
            refine x_then (hK59 _ _ ?_)
            refine c_seq fun _ hK61 => ?_
            refine c_region ?_
            refine o_step rfl (s_ldB rfl (RdPK.cels (.own meA)) (Ec_len _)) ?_
            refine o_step rfl (s_field rfl rfl (by decide)) ?_
            refine o_step rfl (s_ldB rfl (RdPK.cels (RdPK.own' (off := 5) (cs := Ec x.c) meA (fun j u h => ert_cls h))) (Ec_len _)) ?_
            refine o_callP (rOr_fn c x.c) rfl rfl rfl (fun _ _ => trivial) (fun v56 hv56 => ?_)
            rw [x3] at hv56
            subst hv56
            refine o_stW rfl rfl upA (Ec_len _) (Ec_len _) (Ec_one _) ?_
            refine o_nil ?_
            refine x_then (hK61 _ _ ?_)
            refine c_region ?_
            refine o_step rfl (s_field rfl rfl (by decide)) ?_
            refine o_step rfl (step_cast (v' := .int .i64 (t.next : Int)) (s_ld rfl (.own meA rfl)) (congrArg _ x2)) ?_
            refine o_step rfl (s_assign rfl) ?_
            refine o_nil ?_
            refine x_block ?_
            exact x_then (x_inv (n, t.next, false, c ||| t.set) ⟨hnx.2, ⟨⟨(fun h => by cases h), (fun e => by dsimp only at e; exfalso; omega)⟩, by dsimp only; omega⟩, by cases hs : sg l t.next 93 with | false => exact .inl ⟨.inr rfl, by first | omega | (dsimp only; omega), by rw [hLP]; simp only [loopP, hit]; rw [if_neg (by rw [hs]; decide)]⟩ | true => exact .inr ⟨rfl, rfl, by rw [hLP]; simp only [loopP, hit]; rw [if_pos hs]⟩⟩ (by first | omega | (dsimp only; omega)) sbA (by repeat (first | exact HSub.refl _ | exact HSub.nil | refine HSub.takeC pkB ?_)))
          · skip
            rw [hit] at hx
            obtain ⟨x1, x2, x3⟩ := hx
            have hPL : loopP l d (l.length + 1) (d + 1 + if sg l (d + 1) 94 then 1 else 0) true 0 = .bad e1 p1 := by rw [hLP]; simp only [loopP, hit]
            by_cases he32 : e1 = 32
            · skip
              subst he32
              obtain rfl : p1 = d := by rcases itemP_bad hit with ⟨_, h⟩ | ⟨h, _⟩; exact h; omega
              refine o_alloc (l := Ert zRt) (by rw [ert_zero]; rfl) rfl fun b11 => ?_
              refine o_stW rfl rfl upA (ert_len _) (ert_len _) (ert_one _) ?_
              refine o_nil ?_
              refine x_then (hK56 _ _ ?_)
              refine c_seq fun _ hK62 => ?_
              refine c_seq fun _ hK63 => ?_
              refine c_region ?_
              refine o_step rfl (s_field rfl rfl (by decide)) ?_
              refine o_step rfl (s_ld rfl (.own meA rfl)) ?_
              refine o_step rfl (s_eql_t rfl rfl (by omega)) ?_
              refine o_nil ?_
              refine x_then (hK63 _ _ ?_)
              refine c_true rfl ?_
              refine c_seq fun _ hK64 => ?_
              refine c_region ?_
              refine o_step rfl (step_cast (v' := .agg (Ec 0#256).toArray) (s_build0 rfl) (by rw [Ec_zero]; rfl)) ?_
              refine o_step rfl (s_move rfl) ?_
              refine o_stW rfl rfl upA (Ec_len _) (Ec_len _) (Ec_one _) ?_
              refine o_step rfl (s_assign rfl) ?_
              refine o_step rfl (s_assign rfl) ?_
              refine o_nil ?_
              refine x_then (hK64 _ _ ?_)
              refine c_ret ?_
              refine x_then_ret (x_block_ret (x_then_ret (x_block_ret (x_then_ret (?_)))))
              exact x_ret rfl (.agg inferInstance inferInstance rfl (RdPK.cels (.own meA)) (Ec_len _) (.tmp rfl (.tmp rfl (.nil)))) (by rw [parse_bad h91 hPL]; rfl)
            · skip
              have hxf : x.f = (p1 : Int) := x2.resolve_left he32
              refine o_alloc (l := Ert zRt) (by rw [ert_zero]; rfl) rfl fun b11 => ?_
              refine o_stW rfl rfl upA (ert_len _) (ert_len _) (ert_one _) ?_
              refine o_nil ?_
              refine x_then (hK56 _ _ ?_)
              refine c_seq fun _ hK65 => ?_
              refine c_seq fun _ hK66 => ?_
              refine c_region ?_
              refine o_step rfl (s_field rfl rfl (by decide)) ?_
              refine o_step rfl (s_ld rfl (.own meA rfl)) ?_
              refine o_step rfl (s_eql_f rfl rfl (by omega)) ?_
              refine o_nil ?_
              refine x_then (hK66 _ _ ?_)
              refine c_false rfl ?_
              refine c_skip ?_
              refine x_then (hK65 _ _ ?_)
              refine c_seq fun _ hK67 => ?_
              refine c_seq fun _ hK68 => ?_
              refine c_region ?_
              refine o_step rfl (s_field rfl rfl (by decide)) ?_
              refine o_step rfl (s_ld rfl (.own meA rfl)) ?_
              refine o_step rfl (s_neq_t rfl rfl (by omega)) ?_
              refine o_nil ?_
              refine x_then (hK68 _ _ ?_)
              refine c_true rfl ?_
              refine c_seq fun _ hK69 => ?_
              refine c_drawE ([(b11, .cells (Ert x).toArray 92 (0, 0))]) (fun i => false) ?_
              refine e_take 0 rfl (by kernel_rfl) (by kernel_rfl) (by kernel_rfl) (by kernel_rfl) (fun _ _ => rfl) rfl (by repeat (first | exact HSub.refl _ | exact HSub.nil | refine HSub.takeC pkB ?_)) (step_cast (v' := .agg (Ec 0#256).toArray) (s_build0 rfl) (by rw [Ec_zero]; rfl)) ?_
              refine e_take 1 rfl (by kernel_rfl) (by kernel_rfl) (by kernel_rfl) (by kernel_rfl) (fun _ _ => rfl) rfl (by repeat (first | exact HSub.refl _ | exact HSub.nil | refine HSub.takeC pkB ?_)) (s_field rfl rfl (by decide)) ?_
              refine e_take 2 rfl (by kernel_rfl) (by kernel_rfl) (by kernel_rfl) (by kernel_rfl) (fun _ _ => rfl) rfl (by repeat (first | exact HSub.refl _ | exact HSub.nil | refine HSub.takeC pkB ?_)) (s_ld rfl (.own meA rfl)) ?_
              refine e_take 3 rfl (by kernel_rfl) (by kernel_rfl) (by kernel_rfl) (by kernel_rfl) (fun _ _ => rfl) rfl (by repeat (first | exact HSub.refl _ | exact HSub.nil | refine HSub.takeC pkB ?_)) (s_field rfl rfl (by decide)) ?_
              refine e_take 4 rfl (by kernel_rfl) (by kernel_rfl) (by kernel_rfl) (by kernel_rfl) (fun _ _ => rfl) rfl (by repeat (first | exact HSub.refl _ | exact HSub.nil | refine HSub.takeC pkB ?_)) (s_ld rfl (.own meA rfl)) ?_
              refine e_one 5 rfl (by kernel_rfl) ?_
              refine o_stW rfl rfl upA (Ec_len _) (Ec_len _) (Ec_one _) ?_
              refine o_nil ?_
              refine x_oneS (by repeat (first | exact HSub.refl _ | exact HSub.nil | refine HSub.takeC pkB ?_)) ?_
              refine e_one 6 rfl (by kernel_rfl) ?_
              refine o_step rfl (s_assign rfl) ?_
              refine o_nil ?_
              refine x_oneS (by repeat (first | exact HSub.refl _ | exact HSub.nil | refine HSub.takeC pkB ?_)) ?_
              refine e_one 7 rfl (by kernel_rfl) ?_
              refine o_step rfl (s_assign rfl) ?_
              refine o_nil ?_
              refine x_oneS (by repeat (first | exact HSub.refl _ | exact HSub.nil | refine HSub.takeC pkB ?_)) ?_
              refine e_done (by kernel_rfl) ?_
              refine x_then (hK69 _ _ ?_)
              refine c_ret ?_
              refine x_then_ret (x_block_ret (x_then_ret (x_block_ret (x_then_ret (?_)))))
              exact x_ret rfl (.agg inferInstance inferInstance rfl (RdPK.cels (.own meA)) (Ec_len _) (.tmp rfl (.tmp rfl (.nil)))) (by rw [parse_bad h91 hPL, ← hxf, ← x1]; rfl)
        · skip
          rw [hf] at hrun hLP hfi
          refine c_seq fun _ hK70 => ?_
          refine c_seq fun _ hK71 => ?_
          refine c_region ?_
          refine o_step rfl (s_move rfl) ?_
          refine o_step rfl (s_move rfl) ?_
          refine o_step rfl (s_eql_t rfl rfl (hfi.1 rfl)) ?_
          refine o_step rfl (s_move rfl) ?_
          refine o_no rfl rfl rfl rfl ?_
          refine o_no rfl rfl rfl rfl ?_
          refine o_no rfl rfl rfl rfl ?_
          refine o_no rfl rfl rfl rfl ?_
          refine o_step rfl (s_pick_t rfl rfl) ?_
          refine o_nil ?_
          refine x_then (hK71 _ _ ?_)
          refine c_true rfl ?_
          refine c_skip ?_
          refine x_then (hK70 _ _ ?_)
          refine c_block ?_
          refine c_seq fun _ hK72 => ?_
          refine c_region ?_
          refine o_step rfl (s_move rfl) ?_
          refine o_step rfl (s_move rfl) ?_
          refine o_step rfl (s_move rfl) ?_
          refine o_callP (rItem_fn la lc l i d true (((d : Int) + 1 + 1)) hfi) rfl rfl rfl (fun w st => (RdK.old0 hw).out w st) (fun v39 ⟨x, hv39, hx⟩ => ?_)
          subst hv39
          obtain ⟨n, rfl⟩ : ∃ m, n = m + 1 := ⟨n - 1, by omega⟩
          rcases hit : itemP l d i true with t | ⟨e1, p1⟩
          · skip
            rw [hit] at hx
            obtain ⟨x1, x2, x3⟩ := hx
            have hnx := itemP_next hit
            refine o_alloc (l := Ert zRt) (by rw [ert_zero]; rfl) rfl fun b11 => ?_
            refine o_stW rfl rfl upA (ert_len _) (ert_len _) (ert_one _) ?_
            refine o_nil ?_
            refine x_then (hK72 _ _ ?_)
            refine c_seq fun _ hK73 => ?_
            refine c_seq fun _ hK74 => ?_
            refine c_region ?_
            refine o_step rfl (s_field rfl rfl (by decide)) ?_
            refine o_step rfl (s_ld rfl (.own meA rfl)) ?_
            refine o_step rfl (s_eql_f rfl rfl (by omega)) ?_
            refine o_nil ?_
            refine x_then (hK74 _ _ ?_)
            refine c_false rfl ?_
            refine c_skip ?_
            refine x_then (hK73 _ _ ?_)
            refine c_seq fun _ hK75 => ?_
            refine c_seq fun _ hK76 => ?_
            refine c_region ?_
            refine o_step rfl (s_field rfl rfl (by decide)) ?_
            refine o_step rfl (s_ld rfl (.own meA rfl)) ?_
            refine o_step rfl (s_neq_f rfl rfl (by omega)) ?_
            refine o_nil ?_
            refine x_then (hK76 _ _ ?_)
            refine c_false rfl ?_
            refine c_skip ?_
            refine x_then (hK75 _ _ ?_)
            refine c_seq fun _ hK77 => ?_
            refine c_region ?_
            refine o_step rfl (s_ldB rfl (RdPK.cels (.own meA)) (Ec_len _)) ?_
            refine o_step rfl (s_field rfl rfl (by decide)) ?_
            refine o_step rfl (s_ldB rfl (RdPK.cels (RdPK.own' (off := 5) (cs := Ec x.c) meA (fun j u h => ert_cls h))) (Ec_len _)) ?_
            refine o_callP (rOr_fn c x.c) rfl rfl rfl (fun _ _ => trivial) (fun v56 hv56 => ?_)
            rw [x3] at hv56
            subst hv56
            refine o_stW rfl rfl upA (Ec_len _) (Ec_len _) (Ec_one _) ?_
            refine o_nil ?_
            refine x_then (hK77 _ _ ?_)
            refine c_region ?_
            refine o_step rfl (s_field rfl rfl (by decide)) ?_
            refine o_step rfl (step_cast (v' := .int .i64 (t.next : Int)) (s_ld rfl (.own meA rfl)) (congrArg _ x2)) ?_
            refine o_step rfl (s_assign rfl) ?_
            refine o_nil ?_
            refine x_block ?_
            exact x_then (x_inv (n, t.next, false, c ||| t.set) ⟨hnx.2, ⟨⟨(fun h => by cases h), (fun e => by dsimp only at e; exfalso; omega)⟩, by dsimp only; omega⟩, by cases hs : sg l t.next 93 with | false => exact .inl ⟨.inr rfl, by first | omega | (dsimp only; omega), by rw [hLP]; simp only [loopP, hit]; rw [if_neg (by rw [hs]; decide)]⟩ | true => exact .inr ⟨rfl, rfl, by rw [hLP]; simp only [loopP, hit]; rw [if_pos hs]⟩⟩ (by first | omega | (dsimp only; omega)) sbA (by repeat (first | exact HSub.refl _ | exact HSub.nil | refine HSub.takeC pkB ?_)))
          · skip
            rw [hit] at hx
            obtain ⟨x1, x2, x3⟩ := hx
            have hPL : loopP l d (l.length + 1) (d + 1 + if sg l (d + 1) 94 then 1 else 0) true 0 = .bad e1 p1 := by rw [hLP]; simp only [loopP, hit]
            by_cases he32 : e1 = 32
            · skip
              subst he32
              obtain rfl : p1 = d := by rcases itemP_bad hit with ⟨_, h⟩ | ⟨h, _⟩; exact h; omega
              refine o_alloc (l := Ert zRt) (by rw [ert_zero]; rfl) rfl fun b11 => ?_
              refine o_stW rfl rfl upA (ert_len _) (ert_len _) (ert_one _) ?_
              refine o_nil ?_
              refine x_then (hK72 _ _ ?_)
              refine c_seq fun _ hK78 => ?_
              refine c_seq fun _ hK79 => ?_
              refine c_region ?_
              refine o_step rfl (s_field rfl rfl (by decide)) ?_
              refine o_step rfl (s_ld rfl (.own meA rfl)) ?_
              refine o_step rfl (s_eql_t rfl rfl (by omega)) ?_
              refine o_nil ?_
              refine x_then (hK79 _ _ ?_)
              refine c_true rfl ?_
              refine c_seq fun _ hK80 => ?_
              refine c_region ?_
              refine o_step rfl (step_cast (v' := .agg (Ec 0#256).toArray) (s_build0 rfl) (by rw [Ec_zero]; rfl)) ?_
              refine o_step rfl (s_move rfl) ?_
              refine o_stW rfl rfl upA (Ec_len _) (Ec_len _) (Ec_one _) ?_
              refine o_step rfl (s_assign rfl) ?_
              refine o_step rfl (s_assign rfl) ?_
              refine o_nil ?_
              refine x_then (hK80 _ _ ?_)
              refine c_ret ?_
              refine x_then_ret (x_block_ret (x_then_ret (x_block_ret (x_then_ret (?_)))))
              exact x_ret rfl (.agg inferInstance inferInstance rfl (RdPK.cels (.own meA)) (Ec_len _) (.tmp rfl (.tmp rfl (.nil)))) (by rw [parse_bad h91 hPL]; rfl)
            · skip
              have hxf : x.f = (p1 : Int) := x2.resolve_left he32
              refine o_alloc (l := Ert zRt) (by rw [ert_zero]; rfl) rfl fun b11 => ?_
              refine o_stW rfl rfl upA (ert_len _) (ert_len _) (ert_one _) ?_
              refine o_nil ?_
              refine x_then (hK72 _ _ ?_)
              refine c_seq fun _ hK81 => ?_
              refine c_seq fun _ hK82 => ?_
              refine c_region ?_
              refine o_step rfl (s_field rfl rfl (by decide)) ?_
              refine o_step rfl (s_ld rfl (.own meA rfl)) ?_
              refine o_step rfl (s_eql_f rfl rfl (by omega)) ?_
              refine o_nil ?_
              refine x_then (hK82 _ _ ?_)
              refine c_false rfl ?_
              refine c_skip ?_
              refine x_then (hK81 _ _ ?_)
              refine c_seq fun _ hK83 => ?_
              refine c_seq fun _ hK84 => ?_
              refine c_region ?_
              refine o_step rfl (s_field rfl rfl (by decide)) ?_
              refine o_step rfl (s_ld rfl (.own meA rfl)) ?_
              refine o_step rfl (s_neq_t rfl rfl (by omega)) ?_
              refine o_nil ?_
              refine x_then (hK84 _ _ ?_)
              refine c_true rfl ?_
              refine c_seq fun _ hK85 => ?_
              refine c_drawE ([(b11, .cells (Ert x).toArray 92 (0, 0))]) (fun i => false) ?_
              refine e_take 0 rfl (by kernel_rfl) (by kernel_rfl) (by kernel_rfl) (by kernel_rfl) (fun _ _ => rfl) rfl (by repeat (first | exact HSub.refl _ | exact HSub.nil | refine HSub.takeC pkB ?_)) (step_cast (v' := .agg (Ec 0#256).toArray) (s_build0 rfl) (by rw [Ec_zero]; rfl)) ?_
              refine e_take 1 rfl (by kernel_rfl) (by kernel_rfl) (by kernel_rfl) (by kernel_rfl) (fun _ _ => rfl) rfl (by repeat (first | exact HSub.refl _ | exact HSub.nil | refine HSub.takeC pkB ?_)) (s_field rfl rfl (by decide)) ?_
              refine e_take 2 rfl (by kernel_rfl) (by kernel_rfl) (by kernel_rfl) (by kernel_rfl) (fun _ _ => rfl) rfl (by repeat (first | exact HSub.refl _ | exact HSub.nil | refine HSub.takeC pkB ?_)) (s_ld rfl (.own meA rfl)) ?_
              refine e_take 3 rfl (by kernel_rfl) (by kernel_rfl) (by kernel_rfl) (by kernel_rfl) (fun _ _ => rfl) rfl (by repeat (first | exact HSub.refl _ | exact HSub.nil | refine HSub.takeC pkB ?_)) (s_field rfl rfl (by decide)) ?_
              refine e_take 4 rfl (by kernel_rfl) (by kernel_rfl) (by kernel_rfl) (by kernel_rfl) (fun _ _ => rfl) rfl (by repeat (first | exact HSub.refl _ | exact HSub.nil | refine HSub.takeC pkB ?_)) (s_ld rfl (.own meA rfl)) ?_
              refine e_one 5 rfl (by kernel_rfl) ?_
              refine o_stW rfl rfl upA (Ec_len _) (Ec_len _) (Ec_one _) ?_
              refine o_nil ?_
              refine x_oneS (by repeat (first | exact HSub.refl _ | exact HSub.nil | refine HSub.takeC pkB ?_)) ?_
              refine e_one 6 rfl (by kernel_rfl) ?_
              refine o_step rfl (s_assign rfl) ?_
              refine o_nil ?_
              refine x_oneS (by repeat (first | exact HSub.refl _ | exact HSub.nil | refine HSub.takeC pkB ?_)) ?_
              refine e_one 7 rfl (by kernel_rfl) ?_
              refine o_step rfl (s_assign rfl) ?_
              refine o_nil ?_
              refine x_oneS (by repeat (first | exact HSub.refl _ | exact HSub.nil | refine HSub.takeC pkB ?_)) ?_
              refine e_done (by kernel_rfl) ?_
              refine x_then (hK85 _ _ ?_)
              refine c_ret ?_
              refine x_then_ret (x_block_ret (x_then_ret (x_block_ret (x_then_ret (?_)))))
              exact x_ret rfl (.agg inferInstance inferInstance rfl (RdPK.cels (.own meA)) (Ec_len _) (.tmp rfl (.tmp rfl (.nil)))) (by rw [parse_bad h91 hPL, ← hxf, ← x1]; rfl)
      · skip
        refine c_seq fun _ hK86 => ?_
        refine c_seq fun _ hK87 => ?_
        refine c_region ?_
        refine o_step rfl (s_move rfl) ?_
        refine o_step rfl (s_move rfl) ?_
        refine o_step rfl (s_eql_f rfl rfl (fun e => by have := hfi.2 e; cases this)) ?_
        refine o_step rfl (s_move rfl) ?_
        refine o_yes rfl rfl ?_
        refine o_step rfl (s_move rfl) ?_
        refine o_yes rfl rfl ?_
        refine o_step rfl (s_move rfl) ?_
        refine o_yes rfl rfl ?_
        refine o_callP (rSign_fn la lc l (i) 93 93 (by decide)) rfl rfl rfl (fun w st => (RdK.old0 hw).out w st) (fun v33 hv33 => ?_)
        rw [h93] at hv33
        subst hv33
        refine o_yes rfl rfl ?_
        refine o_step rfl (s_not rfl) ?_
        refine o_step rfl (s_pick_f rfl rfl) ?_
        refine o_nil ?_
        refine x_then (hK87 _ _ ?_)
        refine c_false rfl ?_
        refine c_exit ?_
        refine x_then_exit ?_
        refine x_then_exit ?_
        refine x_block_exit ?_
        refine x_then (hK53 _ _ ?_)
        refine c_seq fun _ hK88 => ?_
        refine c_seq fun _ hK89 => ?_
        refine c_region ?_
        refine o_step rfl (s_move rfl) ?_
        refine o_nil ?_
        refine x_then (hK89 _ _ ?_)
        refine c_true rfl ?_
        refine c_region ?_
        refine o_step rfl (s_ldB rfl (RdPK.cels (.own meA)) (Ec_len _)) ?_
        refine o_callP (rNot_fn c) rfl rfl rfl (fun _ _ => trivial) (fun v61 hv61 => ?_)
        subst hv61
        refine o_stW rfl rfl upA (Ec_len _) (Ec_len _) (Ec_one _) ?_
        refine o_nil ?_
        refine x_then (hK88 _ _ ?_)
        refine c_seq fun _ hK90 => ?_
        refine c_region ?_
        refine o_step rfl (s_ldB rfl (RdPK.cels (.own meA)) (Ec_len _)) ?_
        refine o_step rfl (s_move rfl) ?_
        refine o_step rfl (s_add rfl rfl (by omega)) ?_
        refine o_stW rfl rfl upA (Ec_len _) (Ec_len _) (Ec_one _) ?_
        refine o_step rfl (s_assign rfl) ?_
        refine o_step rfl (s_assign rfl) ?_
        refine o_nil ?_
        refine x_then (hK90 _ _ ?_)
        refine c_ret ?_
        refine ?_
        exact x_ret rfl (.agg inferInstance inferInstance rfl (RdPK.cels (.own meA)) (Ec_len _) (.tmp rfl (.tmp rfl (.nil)))) (by rw [parse_good h91 hLP, h94]; rfl)
end Go.Proofs.YtafbigmneipkiaaDoor
