/- Part of the proofs over this seat: see the text that holds the theorem. Conditions: each theorem bears its own. -/
import Derived.Test.YtafbigmneipkiaaDoorHlB
import Derived.Test.YtafbigmneipkiaaDoorBW3
namespace Go.Proofs.YtafbigmneipkiaaDoor
open Go Go.HL Go.Proofs Go.Tab Go.HL.Kl Go.HL.Kl.Bk
theorem eth_set {t : Th} {j : Nat} {u : Value} (h : (Ec t.set)[j]? = some u) : (Eth t)[0 + j]? = some u := by
  rw [Nat.zero_add, Eth, List.getElem?_append_left]
  · exact h
  · rcases Nat.lt_or_ge j (Ec t.set).length with h' | h'
    · exact h'
    · rw [List.getElem?_eq_none h'] at h; cases h
theorem parse_bad {l : List Mk} {d : Nat} {e : Int} {p : Nat} (h : sg l d 91 = true) (hl : loopP l d (l.length + 1) (d + 1 + if sg l (d + 1) 94 then 1 else 0) true 0 = .bad e p) : parseP l (d : Int) = (0, (p : Int), e) := by
  simp only [parseP, Int.toNat_natCast]
  rw [if_neg (by rintro (r | r); omega; rw [h] at r; cases r), hl]
theorem parse_good {l : List Mk} {d : Nat} {c : Cl} {i : Nat} (h : sg l d 91 = true) (hl : loopP l d (l.length + 1) (d + 1 + if sg l (d + 1) 94 then 1 else 0) true 0 = .ok c i) : parseP l (d : Int) = ((if sg l (d + 1) 94 = true then ~~~c else c), (i : Int) + 1, 0) := by
  simp only [parseP, Int.toNat_natCast]
  rw [if_neg (by rintro (r | r); omega; rw [h] at r; cases r), hl]
theorem parse_fn (la : Option Addr) (lc : Nat) (l : List Mk) (at0 : Int) : HL.Fn Tryd.prog 11 [.slice la l.length lc, .int .i64 at0] (fun w => Rd Em w (.slice la l.length lc) l) [] (fun v _ => v = .tuple #[.agg (Ec (parseP l at0).1).toArray, .int .i64 (parseP l at0).2.1, .int .i64 (parseP l at0).2.2]) := by
  refine fn_of Tryd.func11 rfl rfl rfl fun w0 hw => ?_
  have hsl := hw.sl
  have hbl := hsl.le
  refine c_seq fun _ hK1 => ?_
  refine c_region ?_
  refine o_alloc (l := Ec 0#256) (by rw [Ec_zero]; rfl) rfl fun b4 => ?_
  refine o_step rfl (s_assign rfl) ?_
  refine o_step rfl (s_assign rfl) ?_
  refine o_nil ?_
  refine x_then (hK1 _ _ ?_)
  refine c_seq fun _ hK2 => ?_
  refine c_region ?_
  refine o_step rfl (s_move rfl) ?_
  refine o_step rfl (s_move rfl) ?_
  refine o_step rfl (s_build (cs := [_, _]) (vs := [_, _]) rfl rfl (.cons rfl rfl rfl rfl rfl (.cons rfl rfl rfl rfl rfl (.nil)))) ?_
  refine o_box rfl rfl rfl fun b17 => ?_
  refine o_step rfl (s_assign rfl) ?_
  refine o_nil ?_
  refine x_then (hK2 _ _ ?_)
  refine c_seq fun _ hK3 => ?_
  refine c_seq fun _ hK4 => ?_
  refine c_region ?_
  refine o_step rfl (s_move rfl) ?_
  by_cases hneg : at0 < 0
  · skip
    refine o_step rfl (step_cast (v' := .bool true) (s_lss rfl rfl) (by rw [decide_eq_true (by omega)])) ?_
    refine o_step rfl (s_move rfl) ?_
    refine o_no rfl rfl rfl rfl ?_
    refine o_no rfl rfl rfl rfl ?_
    refine o_no rfl rfl rfl rfl ?_
    refine o_no rfl rfl rfl rfl ?_
    refine o_step rfl (s_pick_t rfl rfl) ?_
    refine o_nil ?_
    refine x_then (hK4 _ _ ?_)
    refine c_true rfl ?_
    refine c_seq fun _ hK5 => ?_
    refine c_region ?_
    refine o_step rfl (step_cast (v' := .agg (Ec 0#256).toArray) (s_build0 rfl) (by rw [Ec_zero]; rfl)) ?_
    refine o_stW rfl rfl upA (Ec_len _) (Ec_len _) (Ec_one _) ?_
    refine o_step rfl (s_assign rfl) ?_
    refine o_step rfl (s_assign rfl) ?_
    refine o_nil ?_
    refine x_then (hK5 _ _ ?_)
    refine c_ret ?_
    refine x_then_ret (?_)
    exact x_ret rfl (.agg inferInstance inferInstance rfl (RdPK.cels (.own meA)) lnA (.tmp rfl (.tmp rfl (.nil)))) (by rw [show parseP l at0 = (0, 0, 1) by unfold parseP; rw [if_pos (.inl hneg)]]; rfl)
  · skip
    obtain ⟨d, rfl⟩ : ∃ d : Nat, at0 = (d : Int) := ⟨at0.toNat, by omega⟩
    refine o_step rfl (step_cast (v' := .bool false) (s_lss rfl rfl) (by rw [decide_eq_false (by omega)])) ?_
    refine o_step rfl (s_move rfl) ?_
    refine o_yes rfl rfl ?_
    refine o_step rfl (s_move rfl) ?_
    refine o_yes rfl rfl ?_
    refine o_step rfl (s_move rfl) ?_
    refine o_yes rfl rfl ?_
    refine o_callP (sign_fn b17 la lc l d (d) 91 91 (by decide)) rfl rfl rfl (fun w st => ⟨(RdPK.own meA).out w st, (RdK.old0 hw).out w st⟩) (fun v23 hv23 => ?_)
    subst hv23
    cases h91 : sg l (d) 91
    · skip
      have hP : parseP l (d : Int) = (0, 0, 1) := by unfold parseP; rw [if_pos (.inr (by rw [Int.toNat_natCast]; exact h91))]
      refine o_yes rfl rfl ?_
      refine o_step rfl (s_not rfl) ?_
      refine o_step rfl (s_pick_f rfl rfl) ?_
      refine o_nil ?_
      refine x_then (hK4 _ _ ?_)
      refine c_true rfl ?_
      refine c_seq fun _ hK6 => ?_
      refine c_region ?_
      refine o_step rfl (step_cast (v' := .agg (Ec 0#256).toArray) (s_build0 rfl) (by rw [Ec_zero]; rfl)) ?_
      refine o_stW rfl rfl upA (Ec_len _) (Ec_len _) (Ec_one _) ?_
      refine o_step rfl (s_assign rfl) ?_
      refine o_step rfl (s_assign rfl) ?_
      refine o_nil ?_
      refine x_then (hK6 _ _ ?_)
      refine c_ret ?_
      refine x_then_ret (?_)
      exact x_ret rfl (.agg inferInstance inferInstance rfl (RdPK.cels (.own meA)) lnA (.tmp rfl (.tmp rfl (.nil)))) (by rw [hP]; rfl)
    · skip
      have hdl := sg_lt h91
      refine o_yes rfl rfl ?_
      refine o_step rfl (s_not rfl) ?_
      refine o_step rfl (s_pick_f rfl rfl) ?_
      refine o_nil ?_
      refine x_then (hK4 _ _ ?_)
      refine c_false rfl ?_
      refine c_skip ?_
      refine x_then (hK3 _ _ ?_)
      refine c_seq fun _ hK7 => ?_
      refine c_region ?_
      refine o_step rfl (s_move rfl) ?_
      refine o_step rfl (s_add rfl rfl (by omega)) ?_
      refine o_step rfl (s_assign rfl) ?_
      refine o_nil ?_
      refine x_then (hK7 _ _ ?_)
      refine c_seq fun _ hK8 => ?_
      refine c_region ?_
      refine o_step rfl (s_move rfl) ?_
      refine o_step rfl (s_move rfl) ?_
      refine o_callP (sign_fn b17 la lc l d (d + 1) 94 94 (by decide)) rfl rfl rfl (fun w st => ⟨(RdPK.own meA).out w st, (RdK.old0 hw).out w st⟩) (fun v31 hv31 => ?_)
      subst hv31
      cases h94 : sg l (d + 1) 94
      · skip
        have hLPe : loopP l d (l.length + 1) (d + 1 + if sg l (d + 1) 94 then 1 else 0) true 0 = loopP l d (l.length + 1) (d + 1) true 0 := by rw [h94]; rfl
        refine o_step rfl (s_assign rfl) ?_
        refine o_nil ?_
        refine x_then (hK8 _ _ ?_)
        refine c_seq fun _ hK9 => ?_
        refine c_seq fun _ hK10 => ?_
        refine c_region ?_
        refine o_step rfl (s_move rfl) ?_
        refine o_nil ?_
        refine x_then (hK10 _ _ ?_)
        refine c_false rfl ?_
        refine c_skip ?_
        refine x_then (hK9 _ _ ?_)
        refine c_seq fun _ hK11 => ?_
        refine c_region ?_
        refine o_alloc (l := Ec 0#256) (by rw [Ec_zero]; rfl) rfl fun b10 => ?_
        refine o_nil ?_
        refine x_then (hK11 _ _ ?_)
        refine c_seq fun _ hK12 => ?_
        refine c_seq fun _ hK13 => ?_
        refine c_region ?_
        refine o_step rfl (s_assign rfl) ?_
        refine o_nil ?_
        refine x_then (hK13 _ _ ?_)
        refine c_block ?_
        -- not carried: 5 6
        refine c_loop4 (fun (n : Nat) (i : Nat) (f : Bool) (c : Cl) => i ≤ l.length ∧ ((f = true ∨ sg l i 93 = false) ∧ l.length + 1 ≤ n + i ∧ loopP l d (l.length + 1) (d + 1 + if sg l (d + 1) 94 then 1 else 0) true 0 = loopP l d n i f c ∨ f = false ∧ sg l i 93 = true ∧ loopP l d (l.length + 1) (d + 1 + if sg l (d + 1) 94 then 1 else 0) true 0 = .ok c i)) (fun (n : Nat) (i : Nat) (f : Bool) (c : Cl) => [(11, .bool f), (8, .int .i64 i)]) [(4, _), (7, _), (9, _), (10, _)] (fun (n : Nat) (i : Nat) (f : Bool) (c : Cl) => (b17, .cells [.slice la l.length lc, .int .i64 d].toArray 81 (0, 0)) :: (b10, .cells (Ec c).toArray 28 (0, 0)) :: [(b4, .cells (Ec 0#256).toArray 28 (0, 0))]) (fun (n : Nat) (i : Nat) (f : Bool) (c : Cl) => l.length + 1 - i) (l.length + 1) (d + 1) true 0 ⟨by omega, .inl ⟨.inl rfl, by omega, hLPe⟩⟩ sbA sbA hzA ?_
        rintro n i f c ⟨hi, hD⟩
        rcases hD with ⟨hrun, hn, hLP⟩ | ⟨rfl, h93, hLP⟩
        · skip
          cases hf : f
          · skip
            rw [hf] at hrun hLP
            have h93 : sg l i 93 = false := hrun.resolve_left (by decide)
            refine c_seq fun _ hK14 => ?_
            refine c_seq fun _ hK15 => ?_
            refine c_region ?_
            refine o_step rfl (s_move rfl) ?_
            refine o_step rfl (s_move rfl) ?_
            refine o_yes rfl rfl ?_
            refine o_step rfl (s_move rfl) ?_
            refine o_yes rfl rfl ?_
            refine o_step rfl (s_move rfl) ?_
            refine o_yes rfl rfl ?_
            refine o_callP (sign_fn b17 la lc l d i 93 93 (by decide)) rfl rfl rfl (fun w st => ⟨(RdPK.own meA).out w st, (RdK.old0 hw).out w st⟩) (fun v39 hv39 => ?_)
            rw [h93] at hv39
            subst hv39
            refine o_yes rfl rfl ?_
            refine o_step rfl (s_not rfl) ?_
            refine o_step rfl (s_pick_f rfl rfl) ?_
            refine o_nil ?_
            refine x_then (hK15 _ _ ?_)
            refine c_true rfl ?_
            refine c_skip ?_
            refine x_then (hK14 _ _ ?_)
            refine c_seq fun _ hK16 => ?_
            refine c_block ?_
            refine c_seq fun _ hK17 => ?_
            refine c_region ?_
            refine o_step rfl (s_move rfl) ?_
            refine o_step rfl (s_move rfl) ?_
            refine o_step rfl (s_move rfl) ?_
            refine o_call (item_fn b17 la lc l d i false) rfl rfl rfl (by exact .nil) (fun w st => ⟨(RdPK.own meA).out w st, (RdK.old0 hw).out w st⟩) (fun v46 S46 ⟨tt46, pv46, hv46, hr46⟩ => ?_)
            subst hv46
            obtain ⟨n, rfl⟩ : ∃ m, n = m + 1 := ⟨n - 1, by omega⟩
            rcases hit : itemP l d i false with t | ⟨e1, p1⟩
            · skip
              rw [hit] at hr46
              obtain ⟨hteq, rfl⟩ := hr46
              obtain rfl := hteq.symm
              have hnx := itemP_next hit
              refine o_step rfl (s_move rfl) ?_
              refine o_step rfl (s_extract rfl rfl) ?_
              refine o_step rfl (s_extract rfl rfl) ?_
              refine o_alloc (l := Eth zTh) (by rw [eth_zero]; rfl) rfl fun b12 => ?_
              refine o_stW rfl rfl upA (eth_len _) (eth_len _) (eth_one _) ?_
              refine o_step rfl (s_assign rfl) ?_
              refine o_nil ?_
              refine x_then (hK17 _ _ ?_)
              refine c_seq fun _ hK18 => ?_
              refine c_seq fun _ hK19 => ?_
              refine c_region ?_
              refine o_step rfl (s_move rfl) ?_
              refine o_step rfl (step_cast (v' := .bool false) (s_neq_nilp rfl rfl) rfl) ?_
              refine o_nil ?_
              refine x_then (hK19 _ _ ?_)
              refine c_false rfl ?_
              refine c_skip ?_
              refine x_then (hK18 _ _ ?_)
              refine c_drawE ([(b12, .cells (Eth t).toArray 84 (0, 0))]) (fun i => false) ?_
              refine e_take 1 rfl (by kernel_rfl) (by kernel_rfl) (by kernel_rfl) (by kernel_rfl) (fun _ _ => rfl) rfl hzA (s_field rfl rfl (by decide)) ?_
              refine e_take 2 rfl (by kernel_rfl) (by kernel_rfl) (by kernel_rfl) (by kernel_rfl) (fun _ _ => rfl) rfl hzA (s_ldB rfl (RdPK.cels (RdPK.own' (off := 0) (cs := Ec t.set) meA (fun j u h => eth_set h))) (Ec_len _)) ?_
              refine e_take 4 rfl (by kernel_rfl) (by kernel_rfl) (by kernel_rfl) (by kernel_rfl) (fun _ _ => rfl) rfl hzA (s_field rfl rfl (by decide)) ?_
              refine e_take 5 rfl (by kernel_rfl) (by kernel_rfl) (by kernel_rfl) (by kernel_rfl) (fun _ _ => rfl) rfl hzA (s_ld rfl (.own meA rfl)) ?_
              refine e_one 0 rfl (by kernel_rfl) ?_
              refine o_step rfl (s_ldB rfl (RdPK.cels (.own meA)) (Ec_len _)) ?_
              refine o_nil ?_
              refine x_oneS hzA ?_
              refine e_one 3 rfl (by kernel_rfl) ?_
              refine o_callP (or_fn c t.set) rfl rfl rfl (fun _ _ => trivial) (fun v63 hv63 => ?_)
              subst hv63
              refine o_nil ?_
              refine x_oneS hzA ?_
              refine e_one 6 rfl (by kernel_rfl) ?_
              refine o_stW rfl rfl upA (Ec_len _) (Ec_len _) (Ec_one _) ?_
              refine o_nil ?_
              refine x_oneS hzA ?_
              refine e_one 7 rfl (by kernel_rfl) ?_
              refine o_step rfl (s_assign rfl) ?_
              refine o_nil ?_
              refine x_oneS hzA ?_
              refine e_done (by kernel_rfl) ?_
              refine x_block ?_
              refine x_then (hK16 _ _ ?_)
              refine c_region ?_
              refine o_step rfl (s_assign rfl) ?_
              refine o_nil ?_
              exact x_then (x_inv (n, t.next, false, c ||| t.set) ⟨hnx.2, by cases hs : sg l t.next 93 with | false => exact .inl ⟨.inr rfl, by first | omega | (dsimp only; omega), by rw [hLP]; simp only [loopP, hit]; rw [if_neg (by rw [hs]; decide)]⟩ | true => exact .inr ⟨rfl, rfl, by rw [hLP]; simp only [loopP, hit]; rw [if_pos hs]⟩⟩ (by first | omega | (dsimp only; omega)) sbA hzA)
            · skip
              rw [hit] at hr46
              obtain ⟨bf46, R46, rfl, rfl⟩ := hr46
              have hPL : loopP l d (l.length + 1) (d + 1 + if sg l (d + 1) 94 then 1 else 0) true 0 = .bad e1 p1 := by rw [hLP]; simp only [loopP, hit]
              refine o_step rfl (s_move rfl) ?_
              refine o_step rfl (s_extract rfl rfl) ?_
              refine o_step rfl (s_extract rfl rfl) ?_
              refine o_alloc (l := Eth zTh) (by rw [eth_zero]; rfl) rfl fun b12 => ?_
              refine o_stW rfl rfl upA (eth_len _) (eth_len _) (eth_one _) ?_
              refine o_step rfl (s_assign rfl) ?_
              refine o_nil ?_
              refine x_then (hK17 _ _ ?_)
              refine c_seq fun _ hK20 => ?_
              refine c_seq fun _ hK21 => ?_
              refine c_region ?_
              refine o_step rfl (s_move rfl) ?_
              refine o_step rfl (step_cast (v' := .bool true) (s_neq_nilp rfl rfl) rfl) ?_
              refine o_nil ?_
              refine x_then (hK21 _ _ ?_)
              refine c_true rfl ?_
              refine c_seq fun _ hK22 => ?_
              refine c_drawE ([(bf46, .cells [.int .i64 e1, .int .i64 p1].toArray 89 (0, 0))]) (fun i => false) ?_
              refine e_take 0 rfl (by kernel_rfl) (by kernel_rfl) (by kernel_rfl) (by kernel_rfl) (fun _ _ => rfl) rfl hzA (step_cast (v' := .agg (Ec 0#256).toArray) (s_build0 rfl) (by rw [Ec_zero]; rfl)) ?_
              refine e_take 1 rfl (by kernel_rfl) (by kernel_rfl) (by kernel_rfl) (by kernel_rfl) (fun _ _ => rfl) rfl hzA (s_move rfl) ?_
              refine e_take 2 rfl (by kernel_rfl) (by kernel_rfl) (by kernel_rfl) (by kernel_rfl) (fun _ _ => rfl) rfl hzA (s_nil rfl) ?_
              refine e_take 3 rfl (by kernel_rfl) (by kernel_rfl) (by kernel_rfl) (by kernel_rfl) (fun _ _ => rfl) rfl hzA (s_field rfl rfl (by decide)) ?_
              refine e_take 4 rfl (by kernel_rfl) (by kernel_rfl) (by kernel_rfl) (by kernel_rfl) (fun _ _ => rfl) rfl hzA (s_ld rfl (.own meA rfl)) ?_
              refine e_take 5 rfl (by kernel_rfl) (by kernel_rfl) (by kernel_rfl) (by kernel_rfl) (fun _ _ => rfl) rfl hzA (s_move rfl) ?_
              refine e_take 6 rfl (by kernel_rfl) (by kernel_rfl) (by kernel_rfl) (by kernel_rfl) (fun _ _ => rfl) rfl hzA (s_nil rfl) ?_
              refine e_take 7 rfl (by kernel_rfl) (by kernel_rfl) (by kernel_rfl) (by kernel_rfl) (fun _ _ => rfl) rfl hzA (s_field rfl rfl (by decide)) ?_
              refine e_take 8 rfl (by kernel_rfl) (by kernel_rfl) (by kernel_rfl) (by kernel_rfl) (fun _ _ => rfl) rfl hzA (s_ld rfl (.own meA rfl)) ?_
              refine e_one 9 rfl (by kernel_rfl) ?_
              refine o_stW rfl rfl upA (Ec_len _) (Ec_len _) (Ec_one _) ?_
              refine o_nil ?_
              refine x_oneS hzA ?_
              refine e_one 10 rfl (by kernel_rfl) ?_
              refine o_step rfl (s_assign rfl) ?_
              refine o_nil ?_
              refine x_oneS hzA ?_
              refine e_one 11 rfl (by kernel_rfl) ?_
              refine o_step rfl (s_assign rfl) ?_
              refine o_nil ?_
              refine x_oneS hzA ?_
              refine e_done (by kernel_rfl) ?_
              refine x_then (hK22 _ _ ?_)
              refine c_ret ?_
              refine x_then_ret (x_block_ret (x_then_ret (x_then_ret (x_block_ret (x_then_ret (?_))))))
              exact x_ret rfl (.agg inferInstance inferInstance rfl (RdPK.cels (.own meA)) lnA (.tmp rfl (.tmp rfl (.nil)))) (by rw [parse_bad h91 hPL]; rfl)
          · skip
            rw [hf] at hrun hLP
            refine c_seq fun _ hK23 => ?_
            refine c_seq fun _ hK24 => ?_
            refine c_region ?_
            refine o_step rfl (s_move rfl) ?_
            refine o_step rfl (s_move rfl) ?_
            refine o_no rfl rfl rfl rfl ?_
            refine o_no rfl rfl rfl rfl ?_
            refine o_no rfl rfl rfl rfl ?_
            refine o_no rfl rfl rfl rfl ?_
            refine o_step rfl (s_pick_t rfl rfl) ?_
            refine o_nil ?_
            refine x_then (hK24 _ _ ?_)
            refine c_true rfl ?_
            refine c_skip ?_
            refine x_then (hK23 _ _ ?_)
            refine c_seq fun _ hK25 => ?_
            refine c_block ?_
            refine c_seq fun _ hK26 => ?_
            refine c_region ?_
            refine o_step rfl (s_move rfl) ?_
            refine o_step rfl (s_move rfl) ?_
            refine o_step rfl (s_move rfl) ?_
            refine o_call (item_fn b17 la lc l d i true) rfl rfl rfl (by exact .nil) (fun w st => ⟨(RdPK.own meA).out w st, (RdK.old0 hw).out w st⟩) (fun v46 S46 ⟨tt46, pv46, hv46, hr46⟩ => ?_)
            subst hv46
            obtain ⟨n, rfl⟩ : ∃ m, n = m + 1 := ⟨n - 1, by omega⟩
            rcases hit : itemP l d i true with t | ⟨e1, p1⟩
            · skip
              rw [hit] at hr46
              obtain ⟨hteq, rfl⟩ := hr46
              obtain rfl := hteq.symm
              have hnx := itemP_next hit
              refine o_step rfl (s_move rfl) ?_
              refine o_step rfl (s_extract rfl rfl) ?_
              refine o_step rfl (s_extract rfl rfl) ?_
              refine o_alloc (l := Eth zTh) (by rw [eth_zero]; rfl) rfl fun b12 => ?_
              refine o_stW rfl rfl upA (eth_len _) (eth_len _) (eth_one _) ?_
              refine o_step rfl (s_assign rfl) ?_
              refine o_nil ?_
              refine x_then (hK26 _ _ ?_)
              refine c_seq fun _ hK27 => ?_
              refine c_seq fun _ hK28 => ?_
              refine c_region ?_
              refine o_step rfl (s_move rfl) ?_
              refine o_step rfl (step_cast (v' := .bool false) (s_neq_nilp rfl rfl) rfl) ?_
              refine o_nil ?_
              refine x_then (hK28 _ _ ?_)
              refine c_false rfl ?_
              refine c_skip ?_
              refine x_then (hK27 _ _ ?_)
              refine c_drawE ([(b12, .cells (Eth t).toArray 84 (0, 0))]) (fun i => false) ?_
              refine e_take 1 rfl (by kernel_rfl) (by kernel_rfl) (by kernel_rfl) (by kernel_rfl) (fun _ _ => rfl) rfl hzA (s_field rfl rfl (by decide)) ?_
              refine e_take 2 rfl (by kernel_rfl) (by kernel_rfl) (by kernel_rfl) (by kernel_rfl) (fun _ _ => rfl) rfl hzA (s_ldB rfl (RdPK.cels (RdPK.own' (off := 0) (cs := Ec t.set) meA (fun j u h => eth_set h))) (Ec_len _)) ?_
              refine e_take 4 rfl (by kernel_rfl) (by kernel_rfl) (by kernel_rfl) (by kernel_rfl) (fun _ _ => rfl) rfl hzA (s_field rfl rfl (by decide)) ?_
              refine e_take 5 rfl (by kernel_rfl) (by kernel_rfl) (by kernel_rfl) (by kernel_rfl) (fun _ _ => rfl) rfl hzA (s_ld rfl (.own meA rfl)) ?_
              refine e_one 0 rfl (by kernel_rfl) ?_
              refine o_step rfl (s_ldB rfl (RdPK.cels (.own meA)) (Ec_len _)) ?_
              refine o_nil ?_
              refine x_oneS hzA ?_
              refine e_one 3 rfl (by kernel_rfl) ?_
              refine o_callP (or_fn c t.set) rfl rfl rfl (fun _ _ => trivial) (fun v63 hv63 => ?_)
              subst hv63
              refine o_nil ?_
              refine x_oneS hzA ?_
              refine e_one 6 rfl (by kernel_rfl) ?_
              refine o_stW rfl rfl upA (Ec_len _) (Ec_len _) (Ec_one _) ?_
              refine o_nil ?_
              refine x_oneS hzA ?_
              refine e_one 7 rfl (by kernel_rfl) ?_
              refine o_step rfl (s_assign rfl) ?_
              refine o_nil ?_
              refine x_oneS hzA ?_
              refine e_done (by kernel_rfl) ?_
              refine x_block ?_
              refine x_then (hK25 _ _ ?_)
              refine c_region ?_
              refine o_step rfl (s_assign rfl) ?_
              refine o_nil ?_
              exact x_then (x_inv (n, t.next, false, c ||| t.set) ⟨hnx.2, by cases hs : sg l t.next 93 with | false => exact .inl ⟨.inr rfl, by first | omega | (dsimp only; omega), by rw [hLP]; simp only [loopP, hit]; rw [if_neg (by rw [hs]; decide)]⟩ | true => exact .inr ⟨rfl, rfl, by rw [hLP]; simp only [loopP, hit]; rw [if_pos hs]⟩⟩ (by first | omega | (dsimp only; omega)) sbA hzA)
            · skip
              rw [hit] at hr46
              obtain ⟨bf46, R46, rfl, rfl⟩ := hr46
              have hPL : loopP l d (l.length + 1) (d + 1 + if sg l (d + 1) 94 then 1 else 0) true 0 = .bad e1 p1 := by rw [hLP]; simp only [loopP, hit]
              refine o_step rfl (s_move rfl) ?_
              refine o_step rfl (s_extract rfl rfl) ?_
              refine o_step rfl (s_extract rfl rfl) ?_
              refine o_alloc (l := Eth zTh) (by rw [eth_zero]; rfl) rfl fun b12 => ?_
              refine o_stW rfl rfl upA (eth_len _) (eth_len _) (eth_one _) ?_
              refine o_step rfl (s_assign rfl) ?_
              refine o_nil ?_
              refine x_then (hK26 _ _ ?_)
              refine c_seq fun _ hK29 => ?_
              refine c_seq fun _ hK30 => ?_
              refine c_region ?_
              refine o_step rfl (s_move rfl) ?_
              refine o_step rfl (step_cast (v' := .bool true) (s_neq_nilp rfl rfl) rfl) ?_
              refine o_nil ?_
              refine x_then (hK30 _ _ ?_)
              refine c_true rfl ?_
              refine c_seq fun _ hK31 => ?_
              refine c_drawE ([(bf46, .cells [.int .i64 e1, .int .i64 p1].toArray 89 (0, 0))]) (fun i => false) ?_
              refine e_take 0 rfl (by kernel_rfl) (by kernel_rfl) (by kernel_rfl) (by kernel_rfl) (fun _ _ => rfl) rfl hzA (step_cast (v' := .agg (Ec 0#256).toArray) (s_build0 rfl) (by rw [Ec_zero]; rfl)) ?_
              refine e_take 1 rfl (by kernel_rfl) (by kernel_rfl) (by kernel_rfl) (by kernel_rfl) (fun _ _ => rfl) rfl hzA (s_move rfl) ?_
              refine e_take 2 rfl (by kernel_rfl) (by kernel_rfl) (by kernel_rfl) (by kernel_rfl) (fun _ _ => rfl) rfl hzA (s_nil rfl) ?_
              refine e_take 3 rfl (by kernel_rfl) (by kernel_rfl) (by kernel_rfl) (by kernel_rfl) (fun _ _ => rfl) rfl hzA (s_field rfl rfl (by decide)) ?_
              refine e_take 4 rfl (by kernel_rfl) (by kernel_rfl) (by kernel_rfl) (by kernel_rfl) (fun _ _ => rfl) rfl hzA (s_ld rfl (.own meA rfl)) ?_
              refine e_take 5 rfl (by kernel_rfl) (by kernel_rfl) (by kernel_rfl) (by kernel_rfl) (fun _ _ => rfl) rfl hzA (s_move rfl) ?_
              refine e_take 6 rfl (by kernel_rfl) (by kernel_rfl) (by kernel_rfl) (by kernel_rfl) (fun _ _ => rfl) rfl hzA (s_nil rfl) ?_
              refine e_take 7 rfl (by kernel_rfl) (by kernel_rfl) (by kernel_rfl) (by kernel_rfl) (fun _ _ => rfl) rfl hzA (s_field rfl rfl (by decide)) ?_
              refine e_take 8 rfl (by kernel_rfl) (by kernel_rfl) (by kernel_rfl) (by kernel_rfl) (fun _ _ => rfl) rfl hzA (s_ld rfl (.own meA rfl)) ?_
              refine e_one 9 rfl (by kernel_rfl) ?_
              refine o_stW rfl rfl upA (Ec_len _) (Ec_len _) (Ec_one _) ?_
              refine o_nil ?_
              refine x_oneS hzA ?_
              refine e_one 10 rfl (by kernel_rfl) ?_
              refine o_step rfl (s_assign rfl) ?_
              refine o_nil ?_
              refine x_oneS hzA ?_
              refine e_one 11 rfl (by kernel_rfl) ?_
              refine o_step rfl (s_assign rfl) ?_
              refine o_nil ?_
              refine x_oneS hzA ?_
              refine e_done (by kernel_rfl) ?_
              refine x_then (hK31 _ _ ?_)
              refine c_ret ?_
              refine x_then_ret (x_block_ret (x_then_ret (x_then_ret (x_block_ret (x_then_ret (?_))))))
              exact x_ret rfl (.agg inferInstance inferInstance rfl (RdPK.cels (.own meA)) lnA (.tmp rfl (.tmp rfl (.nil)))) (by rw [parse_bad h91 hPL]; rfl)
        · skip
          refine c_seq fun _ hK32 => ?_
          refine c_seq fun _ hK33 => ?_
          refine c_region ?_
          refine o_step rfl (s_move rfl) ?_
          refine o_step rfl (s_move rfl) ?_
          refine o_yes rfl rfl ?_
          refine o_step rfl (s_move rfl) ?_
          refine o_yes rfl rfl ?_
          refine o_step rfl (s_move rfl) ?_
          refine o_yes rfl rfl ?_
          refine o_callP (sign_fn b17 la lc l d i 93 93 (by decide)) rfl rfl rfl (fun w st => ⟨(RdPK.own meA).out w st, (RdK.old0 hw).out w st⟩) (fun v39 hv39 => ?_)
          rw [h93] at hv39
          subst hv39
          refine o_yes rfl rfl ?_
          refine o_step rfl (s_not rfl) ?_
          refine o_step rfl (s_pick_f rfl rfl) ?_
          refine o_nil ?_
          refine x_then (hK33 _ _ ?_)
          refine c_false rfl ?_
          refine c_exit ?_
          refine x_then_exit ?_
          refine x_then_exit ?_
          refine x_block_exit ?_
          refine x_then (hK12 _ _ ?_)
          refine c_seq fun _ hK34 => ?_
          refine c_seq fun _ hK35 => ?_
          refine c_region ?_
          refine o_step rfl (s_move rfl) ?_
          refine o_nil ?_
          refine x_then (hK35 _ _ ?_)
          refine c_false rfl ?_
          refine c_skip ?_
          refine x_then (hK34 _ _ ?_)
          refine c_seq fun _ hK36 => ?_
          refine c_region ?_
          refine o_step rfl (s_ldB rfl (RdPK.cels (.own meA)) (Ec_len _)) ?_
          refine o_step rfl (s_move rfl) ?_
          refine o_step rfl (s_add rfl rfl (by omega)) ?_
          refine o_stW rfl rfl upA (Ec_len _) (Ec_len _) (Ec_one _) ?_
          refine o_step rfl (s_assign rfl) ?_
          refine o_step rfl (s_assign rfl) ?_
          refine o_nil ?_
          refine x_then (hK36 _ _ ?_)
          refine c_ret ?_
          refine ?_
          exact x_ret rfl (.agg inferInstance inferInstance rfl (RdPK.cels (.own meA)) lnA (.tmp rfl (.tmp rfl (.nil)))) (by rw [parse_good h91 hLP, h94]; rfl)
      · skip
        have hdl1 := sg_lt h94
        have hLPe : loopP l d (l.length + 1) (d + 1 + if sg l (d + 1) 94 then 1 else 0) true 0 = loopP l d (l.length + 1) (d + 1 + 1) true 0 := by rw [h94]; rfl
        refine o_step rfl (s_assign rfl) ?_
        refine o_nil ?_
        refine x_then (hK8 _ _ ?_)
        refine c_seq fun _ hK37 => ?_
        refine c_seq fun _ hK38 => ?_
        refine c_region ?_
        refine o_step rfl (s_move rfl) ?_
        refine o_nil ?_
        refine x_then (hK38 _ _ ?_)
        refine c_true rfl ?_
        refine c_region ?_
        refine o_step rfl (s_move rfl) ?_
        refine o_step rfl (s_add rfl rfl (by omega)) ?_
        refine o_step rfl (s_assign rfl) ?_
        refine o_nil ?_
        refine x_then (hK37 _ _ ?_)
        refine c_seq fun _ hK39 => ?_
        refine c_region ?_
        refine o_alloc (l := Ec 0#256) (by rw [Ec_zero]; rfl) rfl fun b10 => ?_
        refine o_nil ?_
        refine x_then (hK39 _ _ ?_)
        refine c_seq fun _ hK40 => ?_
        refine c_seq fun _ hK41 => ?_
        refine c_region ?_
        refine o_step rfl (s_assign rfl) ?_
        refine o_nil ?_
        refine x_then (hK41 _ _ ?_)
        refine c_block ?_
        -- not carried: 5 6
        refine c_loop4 (fun (n : Nat) (i : Nat) (f : Bool) (c : Cl) => i ≤ l.length ∧ ((f = true ∨ sg l i 93 = false) ∧ l.length + 1 ≤ n + i ∧ loopP l d (l.length + 1) (d + 1 + if sg l (d + 1) 94 then 1 else 0) true 0 = loopP l d n i f c ∨ f = false ∧ sg l i 93 = true ∧ loopP l d (l.length + 1) (d + 1 + if sg l (d + 1) 94 then 1 else 0) true 0 = .ok c i)) (fun (n : Nat) (i : Nat) (f : Bool) (c : Cl) => [(11, .bool f), (8, .int .i64 i)]) [(4, _), (7, _), (9, _), (10, _)] (fun (n : Nat) (i : Nat) (f : Bool) (c : Cl) => (b17, .cells [.slice la l.length lc, .int .i64 d].toArray 81 (0, 0)) :: (b10, .cells (Ec c).toArray 28 (0, 0)) :: [(b4, .cells (Ec 0#256).toArray 28 (0, 0))]) (fun (n : Nat) (i : Nat) (f : Bool) (c : Cl) => l.length + 1 - i) (l.length + 1) (d + 1 + 1) true 0 ⟨by omega, .inl ⟨.inl rfl, by omega, hLPe⟩⟩ sbA sbA hzA ?_
        rintro n i f c ⟨hi, hD⟩
        rcases hD with ⟨hrun, hn, hLP⟩ | ⟨rfl, h93, hLP⟩
        · skip
          cases hf : f
          · skip
            rw [hf] at hrun hLP
            have h93 : sg l i 93 = false := hrun.resolve_left (by decide)
            refine c_seq fun _ hK42 => ?_
            refine c_seq fun _ hK43 => ?_
            refine c_region ?_
            refine o_step rfl (s_move rfl) ?_
            refine o_step rfl (s_move rfl) ?_
            refine o_yes rfl rfl ?_
            refine o_step rfl (s_move rfl) ?_
            refine o_yes rfl rfl ?_
            refine o_step rfl (s_move rfl) ?_
            refine o_yes rfl rfl ?_
            refine o_callP (sign_fn b17 la lc l d i 93 93 (by decide)) rfl rfl rfl (fun w st => ⟨(RdPK.own meA).out w st, (RdK.old0 hw).out w st⟩) (fun v39 hv39 => ?_)
            rw [h93] at hv39
            subst hv39
            refine o_yes rfl rfl ?_
            refine o_step rfl (s_not rfl) ?_
            refine o_step rfl (s_pick_f rfl rfl) ?_
            refine o_nil ?_
            refine x_then (hK43 _ _ ?_)
            refine c_true rfl ?_
            refine c_skip ?_
            refine x_then (hK42 _ _ ?_)
            refine c_seq fun _ hK44 => ?_
            refine c_block ?_
            refine c_seq fun _ hK45 => ?_
            refine c_region ?_
            refine o_step rfl (s_move rfl) ?_
            refine o_step rfl (s_move rfl) ?_
            refine o_step rfl (s_move rfl) ?_
            refine o_call (item_fn b17 la lc l d i false) rfl rfl rfl (by exact .nil) (fun w st => ⟨(RdPK.own meA).out w st, (RdK.old0 hw).out w st⟩) (fun v46 S46 ⟨tt46, pv46, hv46, hr46⟩ => ?_)
            subst hv46
            obtain ⟨n, rfl⟩ : ∃ m, n = m + 1 := ⟨n - 1, by omega⟩
            rcases hit : itemP l d i false with t | ⟨e1, p1⟩
            · skip
              rw [hit] at hr46
              obtain ⟨hteq, rfl⟩ := hr46
              obtain rfl := hteq.symm
              have hnx := itemP_next hit
              refine o_step rfl (s_move rfl) ?_
              refine o_step rfl (s_extract rfl rfl) ?_
              refine o_step rfl (s_extract rfl rfl) ?_
              refine o_alloc (l := Eth zTh) (by rw [eth_zero]; rfl) rfl fun b12 => ?_
              refine o_stW rfl rfl upA (eth_len _) (eth_len _) (eth_one _) ?_
              refine o_step rfl (s_assign rfl) ?_
              refine o_nil ?_
              refine x_then (hK45 _ _ ?_)
              refine c_seq fun _ hK46 => ?_
              refine c_seq fun _ hK47 => ?_
              refine c_region ?_
              refine o_step rfl (s_move rfl) ?_
              refine o_step rfl (step_cast (v' := .bool false) (s_neq_nilp rfl rfl) rfl) ?_
              refine o_nil ?_
              refine x_then (hK47 _ _ ?_)
              refine c_false rfl ?_
              refine c_skip ?_
              refine x_then (hK46 _ _ ?_)
              refine c_drawE ([(b12, .cells (Eth t).toArray 84 (0, 0))]) (fun i => false) ?_
              refine e_take 1 rfl (by kernel_rfl) (by kernel_rfl) (by kernel_rfl) (by kernel_rfl) (fun _ _ => rfl) rfl hzA (s_field rfl rfl (by decide)) ?_
              refine e_take 2 rfl (by kernel_rfl) (by kernel_rfl) (by kernel_rfl) (by kernel_rfl) (fun _ _ => rfl) rfl hzA (s_ldB rfl (RdPK.cels (RdPK.own' (off := 0) (cs := Ec t.set) meA (fun j u h => eth_set h))) (Ec_len _)) ?_
              refine e_take 4 rfl (by kernel_rfl) (by kernel_rfl) (by kernel_rfl) (by kernel_rfl) (fun _ _ => rfl) rfl hzA (s_field rfl rfl (by decide)) ?_
              refine e_take 5 rfl (by kernel_rfl) (by kernel_rfl) (by kernel_rfl) (by kernel_rfl) (fun _ _ => rfl) rfl hzA (s_ld rfl (.own meA rfl)) ?_
              refine e_one 0 rfl (by kernel_rfl) ?_
              refine o_step rfl (s_ldB rfl (RdPK.cels (.own meA)) (Ec_len _)) ?_
              refine o_nil ?_
              refine x_oneS hzA ?_
              refine e_one 3 rfl (by kernel_rfl) ?_
              refine o_callP (or_fn c t.set) rfl rfl rfl (fun _ _ => trivial) (fun v63 hv63 => ?_)
              subst hv63
              refine o_nil ?_
              refine x_oneS hzA ?_
              refine e_one 6 rfl (by kernel_rfl) ?_
              refine o_stW rfl rfl upA (Ec_len _) (Ec_len _) (Ec_one _) ?_
              refine o_nil ?_
              refine x_oneS hzA ?_
              refine e_one 7 rfl (by kernel_rfl) ?_
              refine o_step rfl (s_assign rfl) ?_
              refine o_nil ?_
              refine x_oneS hzA ?_
              refine e_done (by kernel_rfl) ?_
              refine x_block ?_
              refine x_then (hK44 _ _ ?_)
              refine c_region ?_
              refine o_step rfl (s_assign rfl) ?_
              refine o_nil ?_
              exact x_then (x_inv (n, t.next, false, c ||| t.set) ⟨hnx.2, by cases hs : sg l t.next 93 with | false => exact .inl ⟨.inr rfl, by first | omega | (dsimp only; omega), by rw [hLP]; simp only [loopP, hit]; rw [if_neg (by rw [hs]; decide)]⟩ | true => exact .inr ⟨rfl, rfl, by rw [hLP]; simp only [loopP, hit]; rw [if_pos hs]⟩⟩ (by first | omega | (dsimp only; omega)) sbA hzA)
            · skip
              rw [hit] at hr46
              obtain ⟨bf46, R46, rfl, rfl⟩ := hr46
              have hPL : loopP l d (l.length + 1) (d + 1 + if sg l (d + 1) 94 then 1 else 0) true 0 = .bad e1 p1 := by rw [hLP]; simp only [loopP, hit]
              refine o_step rfl (s_move rfl) ?_
              refine o_step rfl (s_extract rfl rfl) ?_
              refine o_step rfl (s_extract rfl rfl) ?_
              refine o_alloc (l := Eth zTh) (by rw [eth_zero]; rfl) rfl fun b12 => ?_
              refine o_stW rfl rfl upA (eth_len _) (eth_len _) (eth_one _) ?_
              refine o_step rfl (s_assign rfl) ?_
              refine o_nil ?_
              refine x_then (hK45 _ _ ?_)
              refine c_seq fun _ hK48 => ?_
              refine c_seq fun _ hK49 => ?_
              refine c_region ?_
              refine o_step rfl (s_move rfl) ?_
              refine o_step rfl (step_cast (v' := .bool true) (s_neq_nilp rfl rfl) rfl) ?_
              refine o_nil ?_
              refine x_then (hK49 _ _ ?_)
              refine c_true rfl ?_
              refine c_seq fun _ hK50 => ?_
              refine c_drawE ([(bf46, .cells [.int .i64 e1, .int .i64 p1].toArray 89 (0, 0))]) (fun i => false) ?_
              refine e_take 0 rfl (by kernel_rfl) (by kernel_rfl) (by kernel_rfl) (by kernel_rfl) (fun _ _ => rfl) rfl hzA (step_cast (v' := .agg (Ec 0#256).toArray) (s_build0 rfl) (by rw [Ec_zero]; rfl)) ?_
              refine e_take 1 rfl (by kernel_rfl) (by kernel_rfl) (by kernel_rfl) (by kernel_rfl) (fun _ _ => rfl) rfl hzA (s_move rfl) ?_
              refine e_take 2 rfl (by kernel_rfl) (by kernel_rfl) (by kernel_rfl) (by kernel_rfl) (fun _ _ => rfl) rfl hzA (s_nil rfl) ?_
              refine e_take 3 rfl (by kernel_rfl) (by kernel_rfl) (by kernel_rfl) (by kernel_rfl) (fun _ _ => rfl) rfl hzA (s_field rfl rfl (by decide)) ?_
              refine e_take 4 rfl (by kernel_rfl) (by kernel_rfl) (by kernel_rfl) (by kernel_rfl) (fun _ _ => rfl) rfl hzA (s_ld rfl (.own meA rfl)) ?_
              refine e_take 5 rfl (by kernel_rfl) (by kernel_rfl) (by kernel_rfl) (by kernel_rfl) (fun _ _ => rfl) rfl hzA (s_move rfl) ?_
              refine e_take 6 rfl (by kernel_rfl) (by kernel_rfl) (by kernel_rfl) (by kernel_rfl) (fun _ _ => rfl) rfl hzA (s_nil rfl) ?_
              refine e_take 7 rfl (by kernel_rfl) (by kernel_rfl) (by kernel_rfl) (by kernel_rfl) (fun _ _ => rfl) rfl hzA (s_field rfl rfl (by decide)) ?_
              refine e_take 8 rfl (by kernel_rfl) (by kernel_rfl) (by kernel_rfl) (by kernel_rfl) (fun _ _ => rfl) rfl hzA (s_ld rfl (.own meA rfl)) ?_
              refine e_one 9 rfl (by kernel_rfl) ?_
              refine o_stW rfl rfl upA (Ec_len _) (Ec_len _) (Ec_one _) ?_
              refine o_nil ?_
              refine x_oneS hzA ?_
              refine e_one 10 rfl (by kernel_rfl) ?_
              refine o_step rfl (s_assign rfl) ?_
              refine o_nil ?_
              refine x_oneS hzA ?_
              refine e_one 11 rfl (by kernel_rfl) ?_
              refine o_step rfl (s_assign rfl) ?_
              refine o_nil ?_
              refine x_oneS hzA ?_
              refine e_done (by kernel_rfl) ?_
              refine x_then (hK50 _ _ ?_)
              refine c_ret ?_
              refine x_then_ret (x_block_ret (x_then_ret (x_then_ret (x_block_ret (x_then_ret (?_))))))
              exact x_ret rfl (.agg inferInstance inferInstance rfl (RdPK.cels (.own meA)) lnA (.tmp rfl (.tmp rfl (.nil)))) (by rw [parse_bad h91 hPL]; rfl)
          · skip
            rw [hf] at hrun hLP
            refine c_seq fun _ hK51 => ?_
            refine c_seq fun _ hK52 => ?_
            refine c_region ?_
            refine o_step rfl (s_move rfl) ?_
            refine o_step rfl (s_move rfl) ?_
            refine o_no rfl rfl rfl rfl ?_
            refine o_no rfl rfl rfl rfl ?_
            refine o_no rfl rfl rfl rfl ?_
            refine o_no rfl rfl rfl rfl ?_
            refine o_step rfl (s_pick_t rfl rfl) ?_
            refine o_nil ?_
            refine x_then (hK52 _ _ ?_)
            refine c_true rfl ?_
            refine c_skip ?_
            refine x_then (hK51 _ _ ?_)
            refine c_seq fun _ hK53 => ?_
            refine c_block ?_
            refine c_seq fun _ hK54 => ?_
            refine c_region ?_
            refine o_step rfl (s_move rfl) ?_
            refine o_step rfl (s_move rfl) ?_
            refine o_step rfl (s_move rfl) ?_
            refine o_call (item_fn b17 la lc l d i true) rfl rfl rfl (by exact .nil) (fun w st => ⟨(RdPK.own meA).out w st, (RdK.old0 hw).out w st⟩) (fun v46 S46 ⟨tt46, pv46, hv46, hr46⟩ => ?_)
            subst hv46
            obtain ⟨n, rfl⟩ : ∃ m, n = m + 1 := ⟨n - 1, by omega⟩
            rcases hit : itemP l d i true with t | ⟨e1, p1⟩
            · skip
              rw [hit] at hr46
              obtain ⟨hteq, rfl⟩ := hr46
              obtain rfl := hteq.symm
              have hnx := itemP_next hit
              refine o_step rfl (s_move rfl) ?_
              refine o_step rfl (s_extract rfl rfl) ?_
              refine o_step rfl (s_extract rfl rfl) ?_
              refine o_alloc (l := Eth zTh) (by rw [eth_zero]; rfl) rfl fun b12 => ?_
              refine o_stW rfl rfl upA (eth_len _) (eth_len _) (eth_one _) ?_
              refine o_step rfl (s_assign rfl) ?_
              refine o_nil ?_
              refine x_then (hK54 _ _ ?_)
              refine c_seq fun _ hK55 => ?_
              refine c_seq fun _ hK56 => ?_
              refine c_region ?_
              refine o_step rfl (s_move rfl) ?_
              refine o_step rfl (step_cast (v' := .bool false) (s_neq_nilp rfl rfl) rfl) ?_
              refine o_nil ?_
              refine x_then (hK56 _ _ ?_)
              refine c_false rfl ?_
              refine c_skip ?_
              refine x_then (hK55 _ _ ?_)
              refine c_drawE ([(b12, .cells (Eth t).toArray 84 (0, 0))]) (fun i => false) ?_
              refine e_take 1 rfl (by kernel_rfl) (by kernel_rfl) (by kernel_rfl) (by kernel_rfl) (fun _ _ => rfl) rfl hzA (s_field rfl rfl (by decide)) ?_
              refine e_take 2 rfl (by kernel_rfl) (by kernel_rfl) (by kernel_rfl) (by kernel_rfl) (fun _ _ => rfl) rfl hzA (s_ldB rfl (RdPK.cels (RdPK.own' (off := 0) (cs := Ec t.set) meA (fun j u h => eth_set h))) (Ec_len _)) ?_
              refine e_take 4 rfl (by kernel_rfl) (by kernel_rfl) (by kernel_rfl) (by kernel_rfl) (fun _ _ => rfl) rfl hzA (s_field rfl rfl (by decide)) ?_
              refine e_take 5 rfl (by kernel_rfl) (by kernel_rfl) (by kernel_rfl) (by kernel_rfl) (fun _ _ => rfl) rfl hzA (s_ld rfl (.own meA rfl)) ?_
              refine e_one 0 rfl (by kernel_rfl) ?_
              refine o_step rfl (s_ldB rfl (RdPK.cels (.own meA)) (Ec_len _)) ?_
              refine o_nil ?_
              refine x_oneS hzA ?_
              refine e_one 3 rfl (by kernel_rfl) ?_
              refine o_callP (or_fn c t.set) rfl rfl rfl (fun _ _ => trivial) (fun v63 hv63 => ?_)
              subst hv63
              refine o_nil ?_
              refine x_oneS hzA ?_
              refine e_one 6 rfl (by kernel_rfl) ?_
              refine o_stW rfl rfl upA (Ec_len _) (Ec_len _) (Ec_one _) ?_
              refine o_nil ?_
              refine x_oneS hzA ?_
              refine e_one 7 rfl (by kernel_rfl) ?_
              refine o_step rfl (s_assign rfl) ?_
              refine o_nil ?_
              refine x_oneS hzA ?_
              refine e_done (by kernel_rfl) ?_
              refine x_block ?_
              refine x_then (hK53 _ _ ?_)
              refine c_region ?_
              refine o_step rfl (s_assign rfl) ?_
              refine o_nil ?_
              exact x_then (x_inv (n, t.next, false, c ||| t.set) ⟨hnx.2, by cases hs : sg l t.next 93 with | false => exact .inl ⟨.inr rfl, by first | omega | (dsimp only; omega), by rw [hLP]; simp only [loopP, hit]; rw [if_neg (by rw [hs]; decide)]⟩ | true => exact .inr ⟨rfl, rfl, by rw [hLP]; simp only [loopP, hit]; rw [if_pos hs]⟩⟩ (by first | omega | (dsimp only; omega)) sbA hzA)
            · skip
              rw [hit] at hr46
              obtain ⟨bf46, R46, rfl, rfl⟩ := hr46
              have hPL : loopP l d (l.length + 1) (d + 1 + if sg l (d + 1) 94 then 1 else 0) true 0 = .bad e1 p1 := by rw [hLP]; simp only [loopP, hit]
              refine o_step rfl (s_move rfl) ?_
              refine o_step rfl (s_extract rfl rfl) ?_
              refine o_step rfl (s_extract rfl rfl) ?_
              refine o_alloc (l := Eth zTh) (by rw [eth_zero]; rfl) rfl fun b12 => ?_
              refine o_stW rfl rfl upA (eth_len _) (eth_len _) (eth_one _) ?_
              refine o_step rfl (s_assign rfl) ?_
              refine o_nil ?_
              refine x_then (hK54 _ _ ?_)
              refine c_seq fun _ hK57 => ?_
              refine c_seq fun _ hK58 => ?_
              refine c_region ?_
              refine o_step rfl (s_move rfl) ?_
              refine o_step rfl (step_cast (v' := .bool true) (s_neq_nilp rfl rfl) rfl) ?_
              refine o_nil ?_
              refine x_then (hK58 _ _ ?_)
              refine c_true rfl ?_
              refine c_seq fun _ hK59 => ?_
              refine c_drawE ([(bf46, .cells [.int .i64 e1, .int .i64 p1].toArray 89 (0, 0))]) (fun i => false) ?_
              refine e_take 0 rfl (by kernel_rfl) (by kernel_rfl) (by kernel_rfl) (by kernel_rfl) (fun _ _ => rfl) rfl hzA (step_cast (v' := .agg (Ec 0#256).toArray) (s_build0 rfl) (by rw [Ec_zero]; rfl)) ?_
              refine e_take 1 rfl (by kernel_rfl) (by kernel_rfl) (by kernel_rfl) (by kernel_rfl) (fun _ _ => rfl) rfl hzA (s_move rfl) ?_
              refine e_take 2 rfl (by kernel_rfl) (by kernel_rfl) (by kernel_rfl) (by kernel_rfl) (fun _ _ => rfl) rfl hzA (s_nil rfl) ?_
              refine e_take 3 rfl (by kernel_rfl) (by kernel_rfl) (by kernel_rfl) (by kernel_rfl) (fun _ _ => rfl) rfl hzA (s_field rfl rfl (by decide)) ?_
              refine e_take 4 rfl (by kernel_rfl) (by kernel_rfl) (by kernel_rfl) (by kernel_rfl) (fun _ _ => rfl) rfl hzA (s_ld rfl (.own meA rfl)) ?_
              refine e_take 5 rfl (by kernel_rfl) (by kernel_rfl) (by kernel_rfl) (by kernel_rfl) (fun _ _ => rfl) rfl hzA (s_move rfl) ?_
              refine e_take 6 rfl (by kernel_rfl) (by kernel_rfl) (by kernel_rfl) (by kernel_rfl) (fun _ _ => rfl) rfl hzA (s_nil rfl) ?_
              refine e_take 7 rfl (by kernel_rfl) (by kernel_rfl) (by kernel_rfl) (by kernel_rfl) (fun _ _ => rfl) rfl hzA (s_field rfl rfl (by decide)) ?_
              refine e_take 8 rfl (by kernel_rfl) (by kernel_rfl) (by kernel_rfl) (by kernel_rfl) (fun _ _ => rfl) rfl hzA (s_ld rfl (.own meA rfl)) ?_
              refine e_one 9 rfl (by kernel_rfl) ?_
              refine o_stW rfl rfl upA (Ec_len _) (Ec_len _) (Ec_one _) ?_
              refine o_nil ?_
              refine x_oneS hzA ?_
              refine e_one 10 rfl (by kernel_rfl) ?_
              refine o_step rfl (s_assign rfl) ?_
              refine o_nil ?_
              refine x_oneS hzA ?_
              refine e_one 11 rfl (by kernel_rfl) ?_
              refine o_step rfl (s_assign rfl) ?_
              refine o_nil ?_
              refine x_oneS hzA ?_
              refine e_done (by kernel_rfl) ?_
              refine x_then (hK59 _ _ ?_)
              refine c_ret ?_
              refine x_then_ret (x_block_ret (x_then_ret (x_then_ret (x_block_ret (x_then_ret (?_))))))
              exact x_ret rfl (.agg inferInstance inferInstance rfl (RdPK.cels (.own meA)) lnA (.tmp rfl (.tmp rfl (.nil)))) (by rw [parse_bad h91 hPL]; rfl)
        · skip
          refine c_seq fun _ hK60 => ?_
          refine c_seq fun _ hK61 => ?_
          refine c_region ?_
          refine o_step rfl (s_move rfl) ?_
          refine o_step rfl (s_move rfl) ?_
          refine o_yes rfl rfl ?_
          refine o_step rfl (s_move rfl) ?_
          refine o_yes rfl rfl ?_
          refine o_step rfl (s_move rfl) ?_
          refine o_yes rfl rfl ?_
          refine o_callP (sign_fn b17 la lc l d i 93 93 (by decide)) rfl rfl rfl (fun w st => ⟨(RdPK.own meA).out w st, (RdK.old0 hw).out w st⟩) (fun v39 hv39 => ?_)
          rw [h93] at hv39
          subst hv39
          refine o_yes rfl rfl ?_
          refine o_step rfl (s_not rfl) ?_
          refine o_step rfl (s_pick_f rfl rfl) ?_
          refine o_nil ?_
          refine x_then (hK61 _ _ ?_)
          refine c_false rfl ?_
          refine c_exit ?_
          refine x_then_exit ?_
          refine x_then_exit ?_
          refine x_block_exit ?_
          refine x_then (hK40 _ _ ?_)
          refine c_seq fun _ hK62 => ?_
          refine c_seq fun _ hK63 => ?_
          refine c_region ?_
          refine o_step rfl (s_move rfl) ?_
          refine o_nil ?_
          refine x_then (hK63 _ _ ?_)
          refine c_true rfl ?_
          refine c_region ?_
          refine o_step rfl (s_ldB rfl (RdPK.cels (.own meA)) (Ec_len _)) ?_
          refine o_callP (not_fn c) rfl rfl rfl (fun _ _ => trivial) (fun v68 hv68 => ?_)
          subst hv68
          refine o_stW rfl rfl upA (Ec_len _) (Ec_len _) (Ec_one _) ?_
          refine o_nil ?_
          refine x_then (hK62 _ _ ?_)
          refine c_seq fun _ hK64 => ?_
          refine c_region ?_
          refine o_step rfl (s_ldB rfl (RdPK.cels (.own meA)) (Ec_len _)) ?_
          refine o_step rfl (s_move rfl) ?_
          refine o_step rfl (s_add rfl rfl (by omega)) ?_
          refine o_stW rfl rfl upA (Ec_len _) (Ec_len _) (Ec_one _) ?_
          refine o_step rfl (s_assign rfl) ?_
          refine o_step rfl (s_assign rfl) ?_
          refine o_nil ?_
          refine x_then (hK64 _ _ ?_)
          refine c_ret ?_
          refine ?_
          exact x_ret rfl (.agg inferInstance inferInstance rfl (RdPK.cels (.own meA)) lnA (.tmp rfl (.tmp rfl (.nil)))) (by rw [parse_good h91 hLP, h94]; rfl)
end Go.Proofs.YtafbigmneipkiaaDoor
