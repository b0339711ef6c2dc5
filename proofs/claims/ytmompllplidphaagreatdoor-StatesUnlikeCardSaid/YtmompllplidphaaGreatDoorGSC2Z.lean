/- Part of the proofs over this seat: see the text that holds the theorem. Conditions: each theorem bears its own. -/
import Derived.Test.YtmompllplidphaaGreatDoorHTZ
import Derived.Test.YtmompllplidphaaGreatDoorKQZ
import Derived.Test.YtmompllplidphaaGreatDoorMT3Z
import Derived.Test.YtmompllplidphaaGreatDoorMC9Z
namespace Go.Proofs.YtmompllplidphaaGreatDoor
open Go Go.HL Go.Proofs Go.HL.Kl
theorem tz_fn (w : BitVec 64) : HL.Fn Tryz.prog 137 [Ew w] (fun w => RdP w 0 0 tabV) [] (fun v _ => v = .int .i64 (Lib.ctz 64 w.toNat)) := by
  refine fn_of Tryz.func137 rfl rfl rfl fun w0 hw => ?_; refine cR fun _ hK1 => ?_; refine oA (oZ hK1 (c_seq fun _ hK2 => ?_)); refine cR fun _ hK3 => ?_; refine oM ?_; refine oS (s_eql rfl rfl) ?_; refine oZ hK3 ?_; refine c_if rfl (fun hz => ?_) (fun hz => ?_)
  · skip
    refine cR fun _ hK4 => ?_; refine oA (oZ hK4 (c_ret ?_)); refine x_then_ret (?_); exact xR rfl rfl (congrArg (Value.int .i64) (by rw [ctz_zero hz]; rfl))
  · skip
    obtain ⟨hi1, hi2⟩ := tab_at w hz
    refine c_skip (xZ hK2 (cR fun _ hK5 => ?_)); refine oM (oM ?_); refine oS (step_cast (v' := Ew (-w)) (s_neg rfl) (v_neg w)) ?_; refine oS (step_cast (v' := Ew (w &&& -w)) (s_and rfl rfl) (v_and w (-w))) ?_; refine oS (step_cast (v' := Ew ((w &&& -w) * 285870213051353865#64)) (s_mulw rfl rfl) (v_mulc _)) ?_; refine oS (step_cast (v' := Ew (((w &&& -w) * 285870213051353865#64) >>> 58)) (s_shr rfl rfl (by decide)) (v_shr _ 58 rfl)) ?_; refine oS (s_idx1 (i := (((w &&& -w) * 285870213051353865#64) >>> 58).toNat) rfl rfl hi1) ?_; refine oS (s_ld rfl ((RdPK.old0 hw).cel (j := (((w &&& -w) * 285870213051353865#64) >>> 58).toNat) hi2 (by omega))) ?_; refine oS (step_cast (v' := .int .i64 ((Lib.ctz 64 w.toNat : Nat) : Int)) (s_conv rfl) (congrArg _ (conv64 (by have := ctz_le w; omega)))) ?_; refine oA (oZ hK5 (c_ret ?_)); refine ?_; exact xR rfl rfl (rfl)
theorem all_fn (c : Cl) : HL.Fn Tryz.prog 121 [.agg (Ec c).toArray] (fun _ => True) [] (fun v S' => ∃ b, v = .func (.func 136) [].toArray [.pointer (some ⟨b, 0, none⟩)].toArray ∧ S' = [(b, .cells (Ec c).toArray 39 (0, 0))]) := by
  refine fn_of Tryz.func121 rfl rfl rfl fun w0 hw => ?_; refine cR fun _ hK1 => ?_; refine o_box rfl rfl rfl fun b1 => ?_; refine oA (oZ hK1 (cR fun _ hK2 => ?_)); refine oS (s_func (us := []) (vs := [_]) rfl rfl) ?_; refine oA (oZ hK2 (c_ret ?_)); refine ?_; exact xR rfl rfl (⟨_, rfl, rfl⟩)
theorem all1_fn (b : Nat) (c : Cl) (l : Nat) (HS HX : List Nat → Hp → Prop) (hY : ∀ (pre : List Nat) (x : Nat) (B : Hp), HS pre B → pre ++ [x] <+: mems c → Yd Tryz.prog l [.int .u8 x] B (fun v B' => (v = .bool true ∧ HS (pre ++ [x]) B') ∨ (v = .bool false ∧ HX (pre ++ [x]) B'))) (B : Hp) (hB : HS [] B) : HL.Fn Tryz.prog 136 [.func (.yield l) #[] #[], .pointer (some ⟨b, 0, none⟩)] (Tb ([(b, .cells (Ec c).toArray 39 (0, 0))] ++ B)) ([(b, .cells (Ec c).toArray 39 (0, 0))] ++ B) (fun _ S' => ∃ S1 B', S' = S1 ++ B' ∧ S1 = [(b, .cells (Ec c).toArray 39 (0, 0))] ∧ (HS (mems c) B' ∨ ∃ p, p <+: mems c ∧ HX p B')) := by
  refine fn_of Tryz.func136 rfl rfl rfl fun w0 hw => ?_; refine cR fun _ hK1 => ?_; refine oM (oZ hK1 (c_block ?_)); refine c_loop2 (fun (i : Nat) (B : Hp) => i ≤ 4 ∧ HS (memsTo c (64 * i)) B) (fun (i : Nat) (B : Hp) => [(5, .int .i64 i)]) [(0, _), (1, _)] (fun (i : Nat) (B : Hp) => [(b, .cells (Ec c).toArray 39 (0, 0))] ++ B) (fun (i : Nat) (B : Hp) => 4 - i) 0 B ⟨by omega, hB⟩ sbA sbA (by exact HSub.refl _) ?_
  rintro i B ⟨hi, hH⟩
  refine cR fun _ hK2 => ?_; refine oS (s_lss rfl rfl) ?_; refine oZ hK2 (c_seq fun _ hK3 => ?_); refine c_if rfl (fun hlt => ?_) (fun hlt => ?_)
  · skip
    have hlt4 : i < 4 := by omega
    refine c_skip (xZ hK3 (c_seq fun _ hK4 => ?_)); refine c_block (c_seq fun _ hK5 => ?_); refine c_quiet (by kernel_rfl) ?_; refine .op rfl (s_move rfl) ?_; refine .op rfl (s_nil rfl) ?_; refine .op rfl (s_idx1 rfl rfl (by omega)) ?_; refine .op rfl (s_ld rfl ((RdPK.own meA).cel (j := i) (Ec_get _ (by omega)) (by omega))) ?_; refine .op rfl (s_assign rfl) ?_; refine .op rfl (s_assign rfl) ?_; refine .nil ?_; refine xZ hK5 (c_block ?_); refine c_loop3 (fun (w : BitVec 64) (p : List Nat) (B2 : Hp) => mems c = p ++ (wmem i w ++ (mems c).drop (memsTo c (64 * i + 64)).length) ∧ HS p B2) (fun (w : BitVec 64) (p : List Nat) (B2 : Hp) => [(4, Ew w)]) [(0, _), (1, _), (3, _), (5, _), (6, _), (7, _), (8, _), (9, _), (10, _)] (fun (w : BitVec 64) (p : List Nat) (B2 : Hp) => [(b, .cells (Ec c).toArray 39 (0, 0))] ++ B2) (fun (w : BitVec 64) (p : List Nat) (B2 : Hp) => (wmem i w).length) (wd c i) (memsTo c (64 * i)) B ⟨mems_from c hlt4, hH⟩ sbA sbA (by exact HSub.refl _) ?_
    rintro w p B2 ⟨hm, hH2⟩
    refine c_seq fun _ hK6 => ?_; refine cR fun _ hK7 => ?_; refine oM ?_; refine oS (s_neq rfl rfl) ?_; refine oZ hK7 ?_; refine c_if rfl (fun hne => ?_) (fun hne => ?_)
    · skip
      have hw0 : w ≠ 0#64 := ne_zero hne
      have hc := wmem_cons i w hw0
      have hkt := (ctz_lt w hw0).1
      have hpre : p ++ [64 * i + Lib.ctz 64 w.toNat] <+: mems c := ⟨_, by rw [hm, hc, List.append_assoc]; rfl⟩
      refine c_skip (xZ hK6 (c_seq fun _ hK8 => ?_)); refine c_block (cR fun _ hK9 => ?_); refine oM (oM ?_); refine oS (step_cast (v' := .int .i64 ((64 * i : Nat) : Int)) (s_shl rfl rfl (by decide)) (congrArg _ (shl6 hlt4))) ?_; refine oM ?_; refine o_callP (tz_fn w) rfl rfl rfl (fun w st => (RdPK.old hw.1 hw.2).out w st) (fun v21 hv21 => ?_); subst hv21
      refine oS (step_cast (v' := .int .i64 ((64 * i + Lib.ctz 64 w.toNat : Nat) : Int)) (s_add rfl rfl (by omega)) (by rw [Int.natCast_add])) ?_; refine oS (step_cast (v' := .int .u8 ((64 * i + Lib.ctz 64 w.toNat : Nat) : Int)) (s_conv rfl) (congrArg _ (conv8 (by omega)))) ?_; refine o_yield (hY p _ B2 hH2 hpre) rfl rfl rfl pkA (fun v24 S24 hv24 => ?_)
      rcases hv24 with ⟨rfl, hH3⟩ | ⟨rfl, hX3⟩
      · skip
        refine oS (s_not rfl) ?_; refine oZ hK9 ?_; refine cF (c_skip (x_block (xZ hK8 (c_region (oM (oM ?_)))))); refine oS (step_cast (v' := Ew (w - 1#64)) (s_subw rfl rfl) (v_sub1 w)) ?_; refine oS (step_cast (v' := Ew (w &&& (w - 1#64))) (s_and rfl rfl) (v_and _ _)) ?_; refine oA (o_nil ?_); exact x_then (x_inv (w &&& (w - 1#64), p ++ [64 * i + Lib.ctz 64 w.toNat], S24) ⟨hm.trans (by rw [hc]; simp [List.append_assoc]), hH3⟩ (by show (wmem i (w &&& (w - 1#64))).length < (wmem i w).length; rw [hc]; simp) sbA hzB)
      · skip
        refine oS (s_not rfl) ?_; refine oZ hK9 ?_; refine cT (c_ret ?_); refine x_block_ret (x_then_ret (x_then_ret (x_block_ret (x_block_ret (x_then_ret (x_then_ret (x_block_ret (?_))))))))
        refine x_sub (Sub.refl _) (H' := [(b, .cells (Ec c).toArray 39 (0, 0))] ++ S24) hzB ?_; exact x_ret rfl (.nil) (⟨_, _, rfl, rfl, .inr ⟨_, hpre, hX3⟩⟩)
    · skip
      have hz0 : w = 0#64 := eq_zero hne
      refine c_exit ?_; refine x_then_exit (x_then_exit (x_block_exit (x_block (xZ hK4 (c_region ?_))))); refine oS sD (oM (o_nil ?_))
      rw [words_end hlt4 hm hz0] at hH2
      exact xI (i + 1, B2) ⟨by omega, hH2⟩
  · skip
    obtain rfl : i = 4 := by omega
    refine c_exit ?_; refine x_then_exit (x_then_exit (x_block_exit ?_)); exact x_end rfl (.nil) (⟨_, _, rfl, rfl, .inl hH⟩)
theorem all_it (b : Nat) (c : Cl) : It Tryz.prog 136 [] [.pointer (some ⟨b, 0, none⟩)] (fun x : Nat => [.int .u8 x]) (mems c) Tb [(b, .cells (Ec c).toArray 39 (0, 0))] (fun S1 => S1 = [(b, .cells (Ec c).toArray 39 (0, 0))]) :=
  ⟨enters_of Tryz.func136 rfl rfl, fun l HS HX hY B hB => all1_fn b c l HS HX hY B hB⟩
theorem least_fn (c : Cl) : HL.Fn Tryz.prog 105 [.agg (Ec c).toArray] (Tb []) [] (fun v _ => v = .int .i64 (least c)) := by
  refine fn_ofM Tryz.func105 rfl rfl rfl fun w0 hw => ?_; refine c_seqD fun _ hK1 => ?_; refine c_region ?_; refine o_box rfl rfl rfl fun b1 => ?_; refine o_alloc rfl rfl fun b2 => ?_; refine o_nil ?_; refine x_then (hK1 _ _ _ ?_); refine c_seqD fun _ hK2 => ?_; refine c_seqD fun _ hK3 => ?_; refine c_region ?_; refine oS (s_ldB rfl (RdPK.cels (.own meA)) lnA) ?_; refine o_call (all_fn c) rfl rfl rfl (by exact .nil) (fun _ _ => trivial) (fun v5 S5 ⟨b5, hv5, hS5⟩ => ?_); subst hv5
  subst hS5; refine o_nil ?_; refine x_then (hK3 _ _ _ ?_); refine c_block ?_; refine c_range (α := Nat) (B0 := [(b2, .cells [.int .i64 0].toArray 3 (0, 0))]) (fun p B => p = [] ∧ B = [(b2, .cells [.int .i64 0].toArray 3 (0, 0))]) (fun c p B => c = .ret ∧ ∃ x : Nat, p = [x] ∧ B = [(b2, .cells [.int .i64 x].toArray 3 (0, 0))]) rfl (all_it b5 c) (pkA) ((fun w H1 S1 st hs => tb_of hw st hs)) ⟨rfl, rfl⟩ (by kernel_rfl) (fun _ => rfl) (by kernel_rfl) ?_ ?_ ?_
  · rintro l r p x B W er1 er2 ⟨rfl, rfl⟩ hx post hy hn
    have hxl : x < 256 := mems_lt hx
    refine c_region (oA (o_nil ?_)); refine x_then (x_begin upA (by kernel_rfl) ?_); refine c_block ?_; refine c_seqD fun _ hK4 => ?_; refine c_region (oM ?_); refine oS (step_cast (v' := .int .i64 ((x : Nat) : Int)) (s_conv rfl) (congrArg _ (conv64 (by omega)))) ?_; refine o_store rfl rfl rfl upA (by first | decide | omega | (simp; done) | (simp; omega)) rfl ?_; refine o_nil ?_; refine x_then (hK4 _ _ _ ?_); refine c_ret ?_; refine x_block_ret (?_); exact x_rret upA (hn _ _ ⟨rfl, x, rfl, rfl⟩)
  · rintro D0 S0r B0 rfl ⟨hm, rfl⟩
    refine x_block ?_; refine x_then (hK2 _ _ _ ?_); refine c_seqD fun _ hK5 => ?_; refine c_region ?_; refine o_store rfl rfl rfl upA (by first | decide | omega | (simp; done) | (simp; omega)) rfl ?_; refine o_nil ?_; refine x_then (hK5 _ _ _ ?_); refine c_ret ?_; refine ?_; exact x_retM (.cons (.nil)) pkA rfl (.cell inferInstance rfl (.own meA rfl) (.nil)) (congrArg (Value.int .i64) (least_nil hm))
  · rintro D0 S0r c p B0 rfl hpx ⟨rfl, x, rfl, rfl⟩
    refine c_ret ?_; refine x_block_ret (x_then_ret (?_))
    exact x_retM (.cons (.nil)) pkA rfl (.cell inferInstance rfl (.own meA rfl) (.nil)) (congrArg (Value.int .i64) (least_head hpx))
theorem atoms_fn (a : Option Addr) (n : Nat) (l : List Cl) : HL.Fn Tryz.prog 40 [.slice a l.length n] (fun w => Rd Ec w (.slice a l.length n) l ∧ Tb [] w) [] (fun v S' => ∃ a' n', v = .slice a' (atoms l).length n' ∧ OwnS Ec 4 39 (.slice a' (atoms l).length n') (atoms l) S') := by
  refine fn_of Tryz.func40 rfl rfl rfl fun w0 hw => ?_
  have hsl := hw.1.sl
  have hbl := hsl.le
  refine cR fun _ hK1 => ?_; refine oA (oZ hK1 (cR fun _ hK2 => ?_)); refine o_callP (range_fn 0 255 (by decide) (by decide)) rfl rfl rfl (fun _ _ => trivial) (fun v13 hv13 => ?_); subst hv13
  refine o_bs (E := Ec) (xs := [rng 0 255]) (vs := [_]) rfl rfl rfl rfl rfl (by decide) (by decide) fun b14 S14 hS14 => ?_; refine oA (oZ hK2 (c_seq fun _ hK3 => ?_)); refine cR fun _ hK4 => ?_; refine oM ?_; refine oS sC (oM (oZ hK4 (c_block ?_))); refine c_loop4 (fun (i : Nat) (b : Option Addr) (m : Nat) (S : Hp) => i ≤ l.length ∧ OwnS Ec 4 39 (.slice b (parts (l.take i)).length m) (parts (l.take i)) S) (fun (i : Nat) (b : Option Addr) (m : Nat) (S : Hp) => [(17, .int .i64 i), (3, .slice b (parts (l.take i)).length m)]) [(2, _), (15, _), (16, _)] (fun (i : Nat) (b : Option Addr) (m : Nat) (S : Hp) => S) (fun (i : Nat) (b : Option Addr) (m : Nat) (S : Hp) => l.length - i) 0 (some ⟨b14, 0, none⟩) 1 S14 ⟨by omega, hS14⟩ sbA sbA (by exact HSub.of_pick pkA) ?_
  rintro i b m S ⟨hi, hS⟩
  have hss := hS.sl
  have hpl := parts_len (l.take i)
  refine cR fun _ hK5 => ?_; refine oS (s_lss rfl rfl) ?_; refine oZ hK5 (c_seq fun _ hK6 => ?_); refine c_if rfl (fun hlt0 => ?_) (fun hlt0 => ?_)
  · skip
    have hlt : i < l.length := by omega
    obtain ⟨c, hcl⟩ : ∃ c, c = l[i] := ⟨_, rfl⟩
    have hget : l[i]? = some c := by rw [hcl]; exact List.getElem?_eq_getElem hlt
    refine c_skip (xZ hK6 (c_seq fun _ hK7 => ?_)); refine c_block (cR fun _ hK8 => ?_); refine oS (s_idx rfl rfl hsl (by omega)) ?_; refine oS (s_ldB rfl ((RdK.old0 hw.1).lds i hget (by omega)) rfl) ?_; refine o_alloc (l := Ec 0#256) (by rw [Ec_zero]; rfl) rfl fun b5 => ?_; refine o_stW rfl rfl upA lnA lnA (by first | exact Ec_one _ | exact flat_one _ _ | exact one_rep rfl | (simp [Value.oneCell']; done)) ?_; refine oZ hK8 (cR fun _ hK9 => ?_); refine oA (oZ hK9 (c_seq fun _ hK10 => ?_)); refine cR fun _ hK11 => ?_; refine oM ?_; refine oS sC (oM (oZ hK11 (c_block ?_))); refine c_loop4 (fun (j : Nat) (b2 : Option Addr) (m2 : Nat) (S2 : Hp) => j ≤ (parts (l.take i)).length ∧ OwnS Ec 4 39 (.slice b2 (refine ((parts (l.take i)).take j) c).length m2) (refine ((parts (l.take i)).take j) c) S2) (fun (j : Nat) (b2 : Option Addr) (m2 : Nat) (S2 : Hp) => [(23, .int .i64 j), (6, .slice b2 (refine ((parts (l.take i)).take j) c).length m2)]) [(2, _), (3, _), (5, _), (15, _), (16, _), (17, _), (18, _), (19, _), (20, _), (21, _), (22, _)] (fun (j : Nat) (b2 : Option Addr) (m2 : Nat) (S2 : Hp) => S2 ++ (S ++ [(b5, .cells (Ec c).toArray 39 (0, 0))])) (fun (j : Nat) (b2 : Option Addr) (m2 : Nat) (S2 : Hp) => (parts (l.take i)).length - j) 0 none 0 [] ⟨by omega, .nil⟩ sbA sbA (by exact HSub.of_perm (List.perm_append_comm (l₁ := [_]) (l₂ := S))) ?_
    rintro j b2 m2 S2 ⟨hj0, hS2⟩
    have hnl := next_len (l.take i) c j
    refine cR fun _ hK12 => ?_; refine oS (s_lss rfl rfl) ?_; refine oZ hK12 (c_seq fun _ hK13 => ?_); refine c_if rfl (fun hj1 => ?_) (fun hj1 => ?_)
    · skip
      have hj : j < (parts (l.take i)).length := by omega
      have hgj := List.getElem?_eq_getElem hj
      refine c_skip (xZ hK13 (c_seq fun _ hK14 => ?_)); refine c_block (cR fun _ hK15 => ?_); refine oS (s_idx rfl rfl hss (by omega)) ?_; refine oS (s_ldB rfl ((hS.rdk hiA).lds j hgj (by omega)) rfl) ?_; refine o_alloc (l := Ec 0#256) (by rw [Ec_zero]; rfl) rfl fun b8 => ?_; refine o_stW rfl rfl upA lnA lnA (by first | exact Ec_one _ | exact flat_one _ _ | exact one_rep rfl | (simp [Value.oneCell']; done)) ?_; refine oZ hK15 (c_seq fun _ hK16 => ?_); refine c_drawE ([(b8, .cells (Ec ((parts (l.take i))[j])).toArray 39 (0, 0)), (b5, .cells (Ec c).toArray 39 (0, 0))]) (fun i => false) ?_; refine eK 0 rfl (s_ldB rfl (RdPK.cels (.own meA)) lnA) ?_; refine eK 1 rfl (s_ldB rfl (RdPK.cels (.own meA)) lnA) ?_; refine eK 3 rfl (s_ldB rfl (RdPK.cels (.own meA)) lnA) ?_; refine eK 4 rfl (s_ldB rfl (RdPK.cels (.own meA)) lnA) ?_; refine e_join (ι := Nat × Nat) (fun g => [(29, .agg (Ec (((parts (l.take i))[j]) &&& c)).toArray), (33, .agg (Ec (((parts (l.take i))[j]) &&& ~~~c)).toArray), (32, .agg (Ec (~~~c)).toArray), (9, .pointer (some ⟨g.1, 0, none⟩)), (10, .pointer (some ⟨g.2, 0, none⟩))]) [(2, _), (3, _), (5, _), (6, _), (8, _), (15, _), (16, _), (17, _), (18, _), (19, _), (20, _), (21, _), (22, _), (23, _), (24, _), (25, _), (26, _), (27, _), (28, _), (30, _), (31, _)] (fun g => [(g.1, .cells (Ec 0#256).toArray 39 (0, 0)), (g.2, .cells (Ec 0#256).toArray 39 (0, 0)), (b8, .cells (Ec ((parts (l.take i))[j])).toArray 39 (0, 0))] ++ (S2 ++ (S ++ [(b5, .cells (Ec c).toArray 39 (0, 0))]))) 2 #[true, true, true, true, true, true, true, true, true, false, false] sbA (fun hJ => ?_) ?_
      · skip
        refine e_any3 2 7 8 rfl rfl rfl (by kernel_rfl) ?_ ?_ ?_
        · skip
          refine o_callP (and_fn ((parts (l.take i))[j]) c) rfl rfl rfl (fun _ _ => trivial) (fun v29 hv29 => ?_); subst hv29
          refine oX ?_; refine e_any3 5 7 8 rfl rfl rfl (by kernel_rfl) ?_ ?_ ?_
          · skip
            refine o_callP (not_fn c) rfl rfl rfl (fun _ _ => trivial) (fun v32 hv32 => ?_); subst hv32
            refine oX ?_; refine e_any3 6 7 8 rfl rfl rfl (by kernel_rfl) ?_ ?_ ?_
            · skip
              refine o_callP (and_fn ((parts (l.take i))[j]) (~~~c)) rfl rfl rfl (fun _ _ => trivial) (fun v33 hv33 => ?_); subst hv33
              refine oX ?_; refine e_any2 7 8 rfl rfl (by kernel_rfl) ?_ ?_
              · skip
                refine o_alloc (l := Ec 0#256) (by rw [Ec_zero]; rfl) rfl fun b9 => ?_; refine oX (eO 8 rfl ?_); refine o_alloc (l := Ec 0#256) (by rw [Ec_zero]; rfl) rfl fun b10 => ?_; refine oX ?_
                exact e_lst (by kernel_rfl) (hJ (b9, b10) _ _ sbA sbA hzB)
              · skip
                refine o_alloc (l := Ec 0#256) (by rw [Ec_zero]; rfl) rfl fun b10 => ?_; refine oX (eO 7 rfl ?_); refine o_alloc (l := Ec 0#256) (by rw [Ec_zero]; rfl) rfl fun b9 => ?_; refine oX ?_
                exact e_lst (by kernel_rfl) (hJ (b9, b10) _ _ sbA sbA hzB)
            · skip
              refine o_alloc (l := Ec 0#256) (by rw [Ec_zero]; rfl) rfl fun b9 => ?_; refine oX ?_; refine e_any2 6 8 rfl rfl (by kernel_rfl) ?_ ?_
              · skip
                refine o_callP (and_fn ((parts (l.take i))[j]) (~~~c)) rfl rfl rfl (fun _ _ => trivial) (fun v33 hv33 => ?_); subst hv33
                refine oX (eO 8 rfl ?_); refine o_alloc (l := Ec 0#256) (by rw [Ec_zero]; rfl) rfl fun b10 => ?_; refine oX ?_
                exact e_lst (by kernel_rfl) (hJ (b9, b10) _ _ sbA sbA hzB)
              · skip
                refine o_alloc (l := Ec 0#256) (by rw [Ec_zero]; rfl) rfl fun b10 => ?_; refine oX (eO 6 rfl ?_); refine o_callP (and_fn ((parts (l.take i))[j]) (~~~c)) rfl rfl rfl (fun _ _ => trivial) (fun v33 hv33 => ?_); subst hv33
                refine oX ?_
                exact e_lst (by kernel_rfl) (hJ (b9, b10) _ _ sbA sbA hzB)
            · skip
              refine o_alloc (l := Ec 0#256) (by rw [Ec_zero]; rfl) rfl fun b10 => ?_; refine oX ?_; refine e_any2 6 7 rfl rfl (by kernel_rfl) ?_ ?_
              · skip
                refine o_callP (and_fn ((parts (l.take i))[j]) (~~~c)) rfl rfl rfl (fun _ _ => trivial) (fun v33 hv33 => ?_); subst hv33
                refine oX (eO 7 rfl ?_); refine o_alloc (l := Ec 0#256) (by rw [Ec_zero]; rfl) rfl fun b9 => ?_; refine oX ?_
                exact e_lst (by kernel_rfl) (hJ (b9, b10) _ _ sbA sbA hzB)
              · skip
                refine o_alloc (l := Ec 0#256) (by rw [Ec_zero]; rfl) rfl fun b9 => ?_; refine oX (eO 6 rfl ?_); refine o_callP (and_fn ((parts (l.take i))[j]) (~~~c)) rfl rfl rfl (fun _ _ => trivial) (fun v33 hv33 => ?_); subst hv33
                refine oX ?_
                exact e_lst (by kernel_rfl) (hJ (b9, b10) _ _ sbA sbA hzB)
          · skip
            refine o_alloc (l := Ec 0#256) (by rw [Ec_zero]; rfl) rfl fun b9 => ?_; refine oX ?_; refine e_any2 5 8 rfl rfl (by kernel_rfl) ?_ ?_
            · skip
              refine o_callP (not_fn c) rfl rfl rfl (fun _ _ => trivial) (fun v32 hv32 => ?_); subst hv32
              refine oX ?_; refine e_any2 6 8 rfl rfl (by kernel_rfl) ?_ ?_
              · skip
                refine o_callP (and_fn ((parts (l.take i))[j]) (~~~c)) rfl rfl rfl (fun _ _ => trivial) (fun v33 hv33 => ?_); subst hv33
                refine oX (eO 8 rfl ?_); refine o_alloc (l := Ec 0#256) (by rw [Ec_zero]; rfl) rfl fun b10 => ?_; refine oX ?_
                exact e_lst (by kernel_rfl) (hJ (b9, b10) _ _ sbA sbA hzB)
              · skip
                refine o_alloc (l := Ec 0#256) (by rw [Ec_zero]; rfl) rfl fun b10 => ?_; refine oX (eO 6 rfl ?_); refine o_callP (and_fn ((parts (l.take i))[j]) (~~~c)) rfl rfl rfl (fun _ _ => trivial) (fun v33 hv33 => ?_); subst hv33
                refine oX ?_
                exact e_lst (by kernel_rfl) (hJ (b9, b10) _ _ sbA sbA hzB)
            · skip
              refine o_alloc (l := Ec 0#256) (by rw [Ec_zero]; rfl) rfl fun b10 => ?_; refine oX (eO 5 rfl ?_); refine o_callP (not_fn c) rfl rfl rfl (fun _ _ => trivial) (fun v32 hv32 => ?_); subst hv32
              refine oX (eO 6 rfl ?_); refine o_callP (and_fn ((parts (l.take i))[j]) (~~~c)) rfl rfl rfl (fun _ _ => trivial) (fun v33 hv33 => ?_); subst hv33
              refine oX ?_
              exact e_lst (by kernel_rfl) (hJ (b9, b10) _ _ sbA sbA hzB)
          · skip
            refine o_alloc (l := Ec 0#256) (by rw [Ec_zero]; rfl) rfl fun b10 => ?_; refine oX ?_; refine e_any2 5 7 rfl rfl (by kernel_rfl) ?_ ?_
            · skip
              refine o_callP (not_fn c) rfl rfl rfl (fun _ _ => trivial) (fun v32 hv32 => ?_); subst hv32
              refine oX ?_; refine e_any2 6 7 rfl rfl (by kernel_rfl) ?_ ?_
              · skip
                refine o_callP (and_fn ((parts (l.take i))[j]) (~~~c)) rfl rfl rfl (fun _ _ => trivial) (fun v33 hv33 => ?_); subst hv33
                refine oX (eO 7 rfl ?_); refine o_alloc (l := Ec 0#256) (by rw [Ec_zero]; rfl) rfl fun b9 => ?_; refine oX ?_
                exact e_lst (by kernel_rfl) (hJ (b9, b10) _ _ sbA sbA hzB)
              · skip
                refine o_alloc (l := Ec 0#256) (by rw [Ec_zero]; rfl) rfl fun b9 => ?_; refine oX (eO 6 rfl ?_); refine o_callP (and_fn ((parts (l.take i))[j]) (~~~c)) rfl rfl rfl (fun _ _ => trivial) (fun v33 hv33 => ?_); subst hv33
                refine oX ?_
                exact e_lst (by kernel_rfl) (hJ (b9, b10) _ _ sbA sbA hzB)
            · skip
              refine o_alloc (l := Ec 0#256) (by rw [Ec_zero]; rfl) rfl fun b9 => ?_; refine oX (eO 5 rfl ?_); refine o_callP (not_fn c) rfl rfl rfl (fun _ _ => trivial) (fun v32 hv32 => ?_); subst hv32
              refine oX (eO 6 rfl ?_); refine o_callP (and_fn ((parts (l.take i))[j]) (~~~c)) rfl rfl rfl (fun _ _ => trivial) (fun v33 hv33 => ?_); subst hv33
              refine oX ?_
              exact e_lst (by kernel_rfl) (hJ (b9, b10) _ _ sbA sbA hzB)
        · skip
          refine o_alloc (l := Ec 0#256) (by rw [Ec_zero]; rfl) rfl fun b9 => ?_; refine oX ?_; refine e_any2 2 8 rfl rfl (by kernel_rfl) ?_ ?_
          · skip
            refine o_callP (and_fn ((parts (l.take i))[j]) c) rfl rfl rfl (fun _ _ => trivial) (fun v29 hv29 => ?_); subst hv29
            refine oX ?_; refine e_any2 5 8 rfl rfl (by kernel_rfl) ?_ ?_
            · skip
              refine o_callP (not_fn c) rfl rfl rfl (fun _ _ => trivial) (fun v32 hv32 => ?_); subst hv32
              refine oX ?_; refine e_any2 6 8 rfl rfl (by kernel_rfl) ?_ ?_
              · skip
                refine o_callP (and_fn ((parts (l.take i))[j]) (~~~c)) rfl rfl rfl (fun _ _ => trivial) (fun v33 hv33 => ?_); subst hv33
                refine oX (eO 8 rfl ?_); refine o_alloc (l := Ec 0#256) (by rw [Ec_zero]; rfl) rfl fun b10 => ?_; refine oX ?_
                exact e_lst (by kernel_rfl) (hJ (b9, b10) _ _ sbA sbA hzB)
              · skip
                refine o_alloc (l := Ec 0#256) (by rw [Ec_zero]; rfl) rfl fun b10 => ?_; refine oX (eO 6 rfl ?_); refine o_callP (and_fn ((parts (l.take i))[j]) (~~~c)) rfl rfl rfl (fun _ _ => trivial) (fun v33 hv33 => ?_); subst hv33
                refine oX ?_
                exact e_lst (by kernel_rfl) (hJ (b9, b10) _ _ sbA sbA hzB)
            · skip
              refine o_alloc (l := Ec 0#256) (by rw [Ec_zero]; rfl) rfl fun b10 => ?_; refine oX (eO 5 rfl ?_); refine o_callP (not_fn c) rfl rfl rfl (fun _ _ => trivial) (fun v32 hv32 => ?_); subst hv32
              refine oX (eO 6 rfl ?_); refine o_callP (and_fn ((parts (l.take i))[j]) (~~~c)) rfl rfl rfl (fun _ _ => trivial) (fun v33 hv33 => ?_); subst hv33
              refine oX ?_
              exact e_lst (by kernel_rfl) (hJ (b9, b10) _ _ sbA sbA hzB)
          · skip
            refine o_alloc (l := Ec 0#256) (by rw [Ec_zero]; rfl) rfl fun b10 => ?_; refine oX (eO 2 rfl ?_); refine o_callP (and_fn ((parts (l.take i))[j]) c) rfl rfl rfl (fun _ _ => trivial) (fun v29 hv29 => ?_); subst hv29
            refine oX (eO 5 rfl ?_); refine o_callP (not_fn c) rfl rfl rfl (fun _ _ => trivial) (fun v32 hv32 => ?_); subst hv32
            refine oX (eO 6 rfl ?_); refine o_callP (and_fn ((parts (l.take i))[j]) (~~~c)) rfl rfl rfl (fun _ _ => trivial) (fun v33 hv33 => ?_); subst hv33
            refine oX ?_
            exact e_lst (by kernel_rfl) (hJ (b9, b10) _ _ sbA sbA hzB)
        · skip
          refine o_alloc (l := Ec 0#256) (by rw [Ec_zero]; rfl) rfl fun b10 => ?_; refine oX ?_; refine e_any2 2 7 rfl rfl (by kernel_rfl) ?_ ?_
          · skip
            refine o_callP (and_fn ((parts (l.take i))[j]) c) rfl rfl rfl (fun _ _ => trivial) (fun v29 hv29 => ?_); subst hv29
            refine oX ?_; refine e_any2 5 7 rfl rfl (by kernel_rfl) ?_ ?_
            · skip
              refine o_callP (not_fn c) rfl rfl rfl (fun _ _ => trivial) (fun v32 hv32 => ?_); subst hv32
              refine oX ?_; refine e_any2 6 7 rfl rfl (by kernel_rfl) ?_ ?_
              · skip
                refine o_callP (and_fn ((parts (l.take i))[j]) (~~~c)) rfl rfl rfl (fun _ _ => trivial) (fun v33 hv33 => ?_); subst hv33
                refine oX (eO 7 rfl ?_); refine o_alloc (l := Ec 0#256) (by rw [Ec_zero]; rfl) rfl fun b9 => ?_; refine oX ?_
                exact e_lst (by kernel_rfl) (hJ (b9, b10) _ _ sbA sbA hzB)
              · skip
                refine o_alloc (l := Ec 0#256) (by rw [Ec_zero]; rfl) rfl fun b9 => ?_; refine oX (eO 6 rfl ?_); refine o_callP (and_fn ((parts (l.take i))[j]) (~~~c)) rfl rfl rfl (fun _ _ => trivial) (fun v33 hv33 => ?_); subst hv33
                refine oX ?_
                exact e_lst (by kernel_rfl) (hJ (b9, b10) _ _ sbA sbA hzB)
            · skip
              refine o_alloc (l := Ec 0#256) (by rw [Ec_zero]; rfl) rfl fun b9 => ?_; refine oX (eO 5 rfl ?_); refine o_callP (not_fn c) rfl rfl rfl (fun _ _ => trivial) (fun v32 hv32 => ?_); subst hv32
              refine oX (eO 6 rfl ?_); refine o_callP (and_fn ((parts (l.take i))[j]) (~~~c)) rfl rfl rfl (fun _ _ => trivial) (fun v33 hv33 => ?_); subst hv33
              refine oX ?_
              exact e_lst (by kernel_rfl) (hJ (b9, b10) _ _ sbA sbA hzB)
          · skip
            refine o_alloc (l := Ec 0#256) (by rw [Ec_zero]; rfl) rfl fun b9 => ?_; refine oX (eO 2 rfl ?_); refine o_callP (and_fn ((parts (l.take i))[j]) c) rfl rfl rfl (fun _ _ => trivial) (fun v29 hv29 => ?_); subst hv29
            refine oX (eO 5 rfl ?_); refine o_callP (not_fn c) rfl rfl rfl (fun _ _ => trivial) (fun v32 hv32 => ?_); subst hv32
            refine oX (eO 6 rfl ?_); refine o_callP (and_fn ((parts (l.take i))[j]) (~~~c)) rfl rfl rfl (fun _ _ => trivial) (fun v33 hv33 => ?_); subst hv33
            refine oX ?_
            exact e_lst (by kernel_rfl) (hJ (b9, b10) _ _ sbA sbA hzB)
      · rintro ⟨b9, b10⟩
        refine eO 9 rfl ?_; refine o_stW rfl rfl upA lnA lnA (by first | exact Ec_one _ | exact flat_one _ _ | exact one_rep rfl | (simp [Value.oneCell']; done)) ?_; refine oX (eO 10 rfl ?_); refine o_stW rfl rfl upA lnA lnA (by first | exact Ec_one _ | exact flat_one _ _ | exact one_rep rfl | (simp [Value.oneCell']; done)) ?_; refine oX (eZ hK16 (c_seq fun _ hK17 => ?_)); refine cR fun _ hK18 => ?_; refine oS (s_ldB rfl (RdPK.cels (.own meA)) lnA) ?_; refine oS (step_cast (v' := .agg (Ec 0#256).toArray) (s_build0 rfl) (by rw [Ec_zero]; rfl)) ?_
        by_cases h1 : (((parts (l.take i))[j]) &&& c) = 0#256
        · skip
          refine oS (step_cast (v' := .bool true) (s_eql_cl rfl rfl) (congrArg Value.bool (decide_eq_true h1))) ?_; refine oM ?_; refine oN ?_; refine oN ?_; refine oN ?_; refine oS sT (oZ hK18 ?_); refine cT (cR fun _ hK19 => ?_); refine oM ?_; refine oS (s_ldB rfl (RdPK.cels (.own meA)) lnA) ?_; refine o_bs (E := Ec) (xs := [((parts (l.take i))[j])]) (vs := [_]) rfl rfl rfl rfl rfl (by decide) (by decide) fun b44 S44 hS44 => ?_; refine o_app hS2 (hS44.rdk hiA) rfl rfl rfl rfl (by show ((refine ((parts (l.take i)).take j) c).length + 1) * 32 ≤ _; omega) (by show (refine ((parts (l.take i)).take j) c).length + 1 ≤ _; omega) rfl pkA fun a45 c45 S45 hS45 => ?_; refine oA (oZ hK19 ?_); refine c_exit ?_; refine x_then_exit (x_block_exit (xZ hK14 (c_region ?_))); refine oS sD (oM (o_nil ?_))
          have hst := refine_step (parts (l.take i)) c hj
          have hr : ref1 c ((parts (l.take i))[j]) = [((parts (l.take i))[j])] := by simp [ref1, h1]
          exact x_then (x_inv (j + 1, _, _, S45) ⟨by omega, by rw [hst, hr]; exact hS45⟩ (by first | omega | (dsimp only; omega)) (by refine Sub.cons rfl (Sub.cons' rfl (by rw [hst, hr]) sbA)) hzB)
        · skip
          refine oS (step_cast (v' := .bool false) (s_eql_cl rfl rfl) (congrArg Value.bool (decide_eq_false h1))) ?_; refine oM ?_; refine oY ?_; refine oS (s_ldB rfl (RdPK.cels (.own meA)) lnA) ?_; refine oY ?_; refine oS (step_cast (v' := .agg (Ec 0#256).toArray) (s_build0 rfl) (by rw [Ec_zero]; rfl)) ?_; refine oY ?_
          by_cases h2 : (((parts (l.take i))[j]) &&& ~~~c) = 0#256
          · skip
            refine oS (step_cast (v' := .bool true) (s_eql_cl rfl rfl) (congrArg Value.bool (decide_eq_true h2))) ?_; refine oS sP (oZ hK18 ?_); refine cT (cR fun _ hK20 => ?_); refine oM ?_; refine oS (s_ldB rfl (RdPK.cels (.own meA)) lnA) ?_; refine o_bs (E := Ec) (xs := [((parts (l.take i))[j])]) (vs := [_]) rfl rfl rfl rfl rfl (by decide) (by decide) fun b44 S44 hS44 => ?_; refine o_app hS2 (hS44.rdk hiA) rfl rfl rfl rfl (by show ((refine ((parts (l.take i)).take j) c).length + 1) * 32 ≤ _; omega) (by show (refine ((parts (l.take i)).take j) c).length + 1 ≤ _; omega) rfl pkA fun a45 c45 S45 hS45 => ?_; refine oA (oZ hK20 ?_); refine c_exit ?_; refine x_then_exit (x_block_exit (xZ hK14 ?_))
            refine c_region ?_; refine oS sD (oM (o_nil ?_))
            have hst := refine_step (parts (l.take i)) c hj
            have hr : ref1 c ((parts (l.take i))[j]) = [((parts (l.take i))[j])] := by simp [ref1, h2]
            exact x_then (x_inv (j + 1, _, _, S45) ⟨by omega, by rw [hst, hr]; exact hS45⟩ (by first | omega | (dsimp only; omega)) (by refine Sub.cons rfl (Sub.cons' rfl (by rw [hst, hr]) sbA)) hzB)
          · skip
            refine oS (step_cast (v' := .bool false) (s_eql_cl rfl rfl) (congrArg Value.bool (decide_eq_false h2))) ?_; refine oS sP (oZ hK18 ?_); refine cFZ hK17 (c_region (oM ?_)); refine oS (s_ldB rfl (RdPK.cels (.own meA)) lnA) ?_; refine oS (s_ldB rfl (RdPK.cels (.own meA)) lnA) ?_; refine o_bs (E := Ec) (xs := [((parts (l.take i))[j]) &&& c, ((parts (l.take i))[j]) &&& ~~~c]) (vs := [_, _]) rfl rfl rfl rfl rfl (by decide) (by decide) fun b49 S49 hS49 => ?_; refine o_app hS2 (hS49.rdk hiA) rfl rfl rfl rfl (by show ((refine ((parts (l.take i)).take j) c).length + 2) * 32 ≤ _; omega) (by show (refine ((parts (l.take i)).take j) c).length + 2 ≤ _; omega) rfl pkA fun a50 c50 S50 hS50 => ?_; refine oA (o_nil (x_block (xZ hK14 (c_region ?_)))); refine oS sD (oM (o_nil ?_))
            have hst := refine_step (parts (l.take i)) c hj
            have hr : ref1 c ((parts (l.take i))[j]) = [((parts (l.take i))[j]) &&& c, ((parts (l.take i))[j]) &&& ~~~c] := by simp [ref1, h1, h2]
            exact x_then (x_inv (j + 1, _, _, S50) ⟨by omega, by rw [hst, hr]; exact hS50⟩ (by first | omega | (dsimp only; omega)) (by refine Sub.cons rfl (Sub.cons' rfl (by rw [hst, hr]) sbA)) hzB)
    · skip
      refine c_exit ?_; refine x_then_exit (x_then_exit (x_block_exit (xZ hK10 (c_region (oM (oA (o_nil (x_block (xZ hK7 (c_region ?_)))))))))); refine oS sD (oM (o_nil ?_))
      have hall : (parts (l.take i)).take j = (parts (l.take i)) := List.take_of_length_le (by omega)
      have hps := parts_step l hlt
      rw [← hcl] at hps
      exact x_then (x_inv (i + 1, b2, m2, S2) ⟨by omega, by rw [hps]; rw [hall] at hS2; exact hS2⟩ (by first | omega | (dsimp only; omega)) (by refine Sub.cons rfl (Sub.cons' rfl (by rw [hps, hall]) sbA)) (by exact HSub.of_pick pkA))
  · skip
    have hall : l.take i = l := List.take_of_length_le (by omega)
    rw [hall] at hS hss hpl
    refine c_exit ?_; refine x_then_exit (x_then_exit (x_block_exit (xZ hK3 (c_seq fun _ hK21 => ?_)))); refine cR fun _ hK22 => ?_; refine oM ?_; refine oS sC (oM (oZ hK22 (c_block ?_)))
    rw [hall]
    refine c_loop2 (fun (i2 : Nat) (S3 : Hp) => i2 ≤ (parts l).length ∧ OwnS Ec 4 39 (.slice b (parts l).length m) (sortTo (parts l) i2) S3) (fun (i2 : Nat) (S3 : Hp) => [(56, .int .i64 i2)]) [(2, _), (3, _), (55, _)] (fun (i2 : Nat) (S3 : Hp) => S3) (fun (i2 : Nat) (S3 : Hp) => (parts l).length - i2) 0 S ⟨by omega, hS⟩ sbA sbA (by exact HSub.of_pick pkA) ?_
    rintro i2 S3 ⟨hi2, hS3⟩
    refine cR fun _ hK23 => ?_; refine oS (s_lss rfl rfl) ?_; refine oZ hK23 (c_seq fun _ hK24 => ?_); refine c_if rfl (fun hlt2 => ?_) (fun hlt2 => ?_)
    · skip
      refine c_skip (xZ hK24 (c_seq fun _ hK25 => ?_)); refine c_block (cR fun _ hK26 => ?_); refine oM (oA (oZ hK26 (cR fun _ hK27 => ?_))); refine oM (oA (oZ hK27 (c_block ?_))); refine c_loop3 (fun (k : Nat) (M : List Cl) (S4 : Hp) => k ≤ i2 ∧ M.length = (parts l).length ∧ sink M k = sink (sortTo (parts l) i2) i2 ∧ OwnS Ec 4 39 (.slice b (parts l).length m) M S4) (fun (k : Nat) (M : List Cl) (S4 : Hp) => [(12, .int .i64 k)]) [(2, _), (3, _), (11, _), (55, _), (56, _), (57, _), (58, _), (59, _)] (fun (k : Nat) (M : List Cl) (S4 : Hp) => S4) (fun (k : Nat) (M : List Cl) (S4 : Hp) => k) i2 (sortTo (parts l) i2) S3 ⟨Nat.le_refl _, sortTo_len _ _, rfl, hS3⟩ sbA sbA (by exact HSub.of_pick pkA) ?_
      rintro k M S4 ⟨hk, hML, hsk, hS4⟩
      refine c_seq fun _ hK28 => ?_; refine c_seq fun _ hK29 => ?_; refine c_quiet (by kernel_rfl) ?_; refine .op rfl (s_move rfl) ?_
      by_cases hk0 : 0 < k
      · skip
        refine .op rfl (step_cast (v' := .bool true) (s_gtr rfl rfl) (congrArg Value.bool (decide_eq_true (by omega)))) ?_; refine .op rfl (s_move rfl) ?_
        obtain ⟨q, rfl⟩ : ∃ q, k = q + 1 := ⟨k - 1, by omega⟩
        have hg1 := getD_get (l := M) (k := q + 1) (by omega)
        have hg0 := getD_get (l := M) (k := q) (by omega)
        refine .yes rfl rfl rfl (s_move rfl) ?_; refine .yes rfl rfl rfl (s_move rfl) ?_; refine .yes rfl rfl rfl (s_idx rfl rfl hss (by omega)) ?_; refine .yes rfl rfl rfl (s_ldB rfl ((hS4.rdk hiA).lds (q + 1) hg1 (by omega)) rfl) ?_; refine .call (fun _ fr => by rw [wanted_of fr rfl rfl rfl]; rfl) rfl rfl rfl (least_fn (M.getD (q + 1) 0)) (fun w st => tb_of hw.2 st HSub.nil) ?_; refine .yes rfl rfl rfl (s_move rfl) ?_; refine .yes rfl rfl rfl (s_move rfl) ?_; refine .yes rfl rfl rfl (step_cast (v' := .int .i64 ((q : Nat) : Int)) (s_sub rfl rfl (by omega)) (congrArg _ (by omega))) ?_; refine .yes rfl rfl rfl (s_idx rfl rfl hss (by omega)) ?_; refine .yes rfl rfl rfl (s_ldB rfl ((hS4.rdk hiA).lds q hg0 (by omega)) rfl) ?_; refine .call (fun _ fr => by rw [wanted_of fr rfl rfl rfl]; rfl) rfl rfl rfl (least_fn (M.getD q 0)) (fun w st => tb_of hw.2 st HSub.nil) ?_
        by_cases hles : least (M.getD (q + 1) 0) < least (M.getD q 0)
        · skip
          refine .yes rfl rfl rfl (step_cast (v' := .bool true) (s_lss rfl rfl) (congrArg Value.bool (decide_eq_true (by omega)))) ?_; refine .op rfl (s_pick_t rfl rfl) ?_; refine .nil ?_; refine xZ hK29 ?_; refine cTZ hK28 (c_seq fun _ hK30 => ?_); refine c_block ?_; refine c_drawE (S4) (fun i => Nat.beq i 15 || Nat.beq i 16 || Nat.beq i 17) ?_; refine eP 0 rfl sM ?_; refine eP 1 rfl sM ?_; refine eP 2 rfl sM ?_; refine eP 3 rfl sM ?_; refine eP 4 rfl (step_cast (v' := .int .i64 ((q : Nat) : Int)) (s_sub rfl rfl (by omega)) (congrArg _ (by omega))) ?_; refine eP 5 rfl sM ?_; refine eP 6 rfl sM ?_; refine eP 7 rfl (step_cast (v' := .int .i64 ((q : Nat) : Int)) (s_sub rfl rfl (by omega)) (congrArg _ (by omega))) ?_; refine eP 8 rfl (s_idx rfl rfl hss (by omega)) ?_; refine eP 10 rfl sM ?_; refine eP 11 rfl sM ?_; refine eP 12 rfl (s_idx rfl rfl hss (by omega)) ?_; refine eK 9 rfl (s_ldB rfl ((hS4.rdk hiA).lds q hg0 (by omega)) rfl) ?_; refine eK 13 rfl (s_ldB rfl ((hS4.rdk hiA).lds (q + 1) hg1 (by omega)) rfl) ?_; refine eO 14 rfl ?_; refine oS (s_idx rfl rfl hss (by omega)) ?_; refine oX (eO 15 rfl ?_); refine o_stSE (q + 1) (M.getD q 0) hS4 pkA rfl rfl (by first | (simp; omega) | omega) (by omega) fun S9 hS9 => ?_; refine o_nil ?_; refine x_oneL rfl ?_; refine eO 16 rfl ?_; refine oS (s_idx rfl rfl hss (by omega)) ?_; refine o_nil ?_; refine x_oneL rfl ?_; refine eO 17 rfl ?_; refine o_stSE (q) (M.getD (q + 1) 0) hS9 pkA rfl rfl (by first | (simp; omega) | omega) (by omega) fun S10 hS10 => ?_
          refine o_nil ?_; refine x_oneL rfl ?_; refine e_done (by kernel_rfl) ?_; refine x_block (xZ hK30 (c_region (oM ?_))); refine oS (step_cast (v' := .int .i64 ((q : Nat) : Int)) (s_sub rfl rfl (by omega)) (congrArg _ (by omega))) ?_; refine oA (o_nil ?_); exact x_then (x_inv (q, swap M q, S10) ⟨by omega, by rw [swap_len]; exact hML, by rw [← hsk]; exact (sink_yes hles).symm, hS10⟩ (by first | omega | (dsimp only; omega)) sbA (by exact HSub.of_pick pkA))
        · skip
          refine .yes rfl rfl rfl (step_cast (v' := .bool false) (s_lss rfl rfl) (congrArg Value.bool (decide_eq_false (by omega)))) ?_; refine .op rfl (s_pick_t rfl rfl) ?_; refine .nil ?_; refine xZ hK29 ?_; refine cF ?_; refine c_exit ?_; refine x_then_exit (x_then_exit (x_block_exit (x_block (xZ hK25 (c_region ?_))))); refine oS sD (oM (o_nil ?_)); exact xI (i2 + 1, S4) ⟨by omega, by show OwnS Ec 4 39 (.slice b (parts l).length m) (sortTo (parts l) (i2 + 1)) S4; unfold sortTo; rw [← hsk, sink_no hles]; exact hS4⟩
      · skip
        refine .op rfl (step_cast (v' := .bool false) (s_gtr rfl rfl) (congrArg Value.bool (decide_eq_false (by omega)))) ?_; refine .op rfl (s_move rfl) ?_; refine .no rfl rfl rfl rfl ?_; refine .no rfl rfl rfl rfl ?_; refine .no rfl rfl rfl rfl ?_; refine .no rfl rfl rfl rfl ?_; refine .no rfl rfl rfl rfl ?_; refine .no rfl rfl rfl rfl ?_; refine .no rfl rfl rfl rfl ?_; refine .no rfl rfl rfl rfl ?_; refine .no rfl rfl rfl rfl ?_; refine .no rfl rfl rfl rfl ?_; refine .no rfl rfl rfl rfl ?_; refine .no rfl rfl rfl rfl ?_; refine .op rfl (s_pick_f rfl rfl) ?_; refine .nil ?_; refine xZ hK29 ?_; refine cF ?_; refine c_exit ?_; refine x_then_exit (x_then_exit (x_block_exit (x_block (xZ hK25 (c_region ?_))))); refine oS sD (oM (o_nil ?_))
        obtain rfl : k = 0 := by omega
        exact xI (i2 + 1, S4) ⟨by omega, by show OwnS Ec 4 39 (.slice b (parts l).length m) (sortTo (parts l) (i2 + 1)) S4; unfold sortTo; rw [← hsk]; exact hS4⟩
    · skip
      obtain rfl : i2 = (parts l).length := by omega
      refine c_exit ?_; refine x_then_exit ?_; refine x_then_exit ?_; refine x_block_exit ?_; refine x_then (hK21 _ _ ?_); refine c_seq fun _ hK31 => ?_; refine c_region ?_; refine o_step rfl (s_move rfl) ?_; refine o_step rfl (s_assign rfl) ?_; refine o_nil ?_; refine x_then (hK31 _ _ ?_); refine c_ret ?_; refine ?_; exact x_ret rfl (.tmp rfl (.nil)) (⟨b, m, by rw [atoms_length]; rfl, by rw [atoms_length]; exact hS3⟩)
end Go.Proofs.YtmompllplidphaaGreatDoor
namespace Go.Proofs.YtmompllplidphaaGreatDoor
open Go Go.HL Go.Proofs Go.HL.Kl Go.HL.Kl.Mc Go.HL.Sts
set_option maxHeartbeats 2000000 in
theorem wideO_fn (bx : Nat) (ra : Option Addr) (rc rc0 : Nat) (X : Plc) (S : Hp) (hP : PlS bx ra rc rc0 X S) (root : Pt) (aa : Option Addr) (ac : Nat) (atoms : List Kl.Cl) (hx : X.fol.length = X.sets.length) (hx20 : X.sets.length ≤ 20) (hal : atoms.length ≤ 256) : HL.Fn Tryz.prog 41 [.pointer (some ⟨bx, 0, none⟩), .agg (Ep4 (root)).toArray, .slice aa atoms.length ac] (fun w => Rd Ec w (.slice aa atoms.length ac) atoms ∧ Apart (keys S) (.slice aa atoms.length ac)) S (fun v S' => ∃ S2, HSub S' S2 ∧ ∃ (na : Option Addr) (nc : Nat) (rows : List (Sl Nat)) (ea : Option Addr) (ec : Nat) (Sn Se Sq : Hp), v = .agg [.slice na rows.length nc, .slice ea (wideM X root atoms).ends.length ec].toArray ∧ S2 = Sn ++ (Se ++ (Sq ++ S)) ∧ OwnS Esl 1 36 (.slice na rows.length nc) rows Sn ∧ OwnS Ebo 1 4 (.slice ea (wideM X root atoms).ends.length ec) (wideM X root atoms).ends Se ∧ OwnL Eix 1 3 rows (wideM X root atoms).next Sq ∧ (wideM X root atoms).next = rows.map Sl.xs ∧ (wideM X root atoms).met.Nodup ∧ (wideM X root atoms).next.length = (wideM X root atoms).met.length + 1 ∧ (wideM X root atoms).ends.length = (wideM X root atoms).met.length + 1) := by
  refine fn_of Tryz.func41 rfl rfl rfl fun w0 hw => ?_
  have hsl := hw.1.sl
  have hbl := hsl.le
  obtain ⟨sa, sc, fa, fc, Ss, Sf, rfl, hs, hf⟩ := hP
  have hss := hs.sl
  have hfs := hf.sl
  have hrl := rdsOf_len X.sets atoms
  refine cR fun _ hK1 => ?_; refine o_box rfl rfl rfl fun b4 => ?_; refine o_box rfl rfl rfl fun b5 => ?_; refine o_alloc rfl rfl fun b6 => ?_; refine oZ hK1 (cR fun _ hK2 => ?_); refine oS sL ?_; refine oS sC ?_; refine o_make (E := E3) (zx := (0 : Sp)) (n := atoms.length) rfl rfl rfl (by omega) (by omega) rfl fun b22 S22 hS22 => ?_
  rw [← filZ_nil] at hS22
  have hs22 := hS22.sl
  rw [filZ_len (Nat.zero_le _)] at hs22
  refine o_alloc rfl rfl fun b7 => ?_; refine o_store rfl rfl rfl upA ltA rfl ?_; refine oZ hK2 (c_seq fun _ hK3 => ?_); refine cR fun _ hK4 => ?_; refine oS sL ?_; refine oS sC (oM (oZ hK4 (c_block ?_))); refine c_loop2 (fun (k : Nat) (Sr : Hp) => k ≤ atoms.length ∧ OwnS E3 3 90 (.slice (some ⟨b22, 0, none⟩) atoms.length atoms.length) (filZ 0 ((rdsOf X.sets atoms).take k) atoms.length) Sr) (fun (k : Nat) (Sr : Hp) => [(25, .int .i64 k)]) [(0, _), (4, _), (5, _), (6, _), (7, _), (23, _), (24, _)] (fun (k : Nat) (Sr : Hp) => (b7, .cells [.slice (some ⟨b22, 0, none⟩) atoms.length atoms.length].toArray 84 (0, 0)) :: (b5, .cells [.slice aa atoms.length ac].toArray 26 (0, 0)) :: (b4, .cells (Ep4 (root)).toArray 93 (0, 0)) :: (b6, .cells [.slice none 0 0, .slice none 0 0].toArray 96 (0, 0)) :: (Sr ++ ((bx, .cells [.slice ra rc0 rc, .slice sa X.sets.length sc, .slice fa X.fol.length fc].toArray 86 (0, 0)) :: (Sf ++ Ss)))) (fun (k : Nat) (Sr : Hp) => atoms.length - k) 0 S22 ⟨Nat.zero_le _, hS22⟩ sbA sbA hzB ?_
  rintro k Sr ⟨hk, hR⟩
  refine cR fun _ hK5 => ?_; refine oS (s_lss rfl rfl) ?_; refine oZ hK5 (c_seq fun _ hK6 => ?_); refine c_if rfl (fun hlt => ?_) (fun hlt => ?_)
  ·obtain ⟨a, hak⟩ : ∃ a, atoms[k]? = some a := gE
   have htk := take_len (l := (rdsOf X.sets atoms)) (k := k) (by omega)
   refine c_skip (xZ hK6 (c_seq fun _ hK7 => ?_)); refine c_block (cR fun _ hK8 => ?_); refine oM ?_; refine oS (s_idx rfl rfl hsl (by omega)) ?_; refine oS (s_ldB rfl ((RdK.old (κ := ⟨_, [], w0, _⟩) hw.1 hw.2).lds k hak (by simp only [Int.toNat_natCast])) lnA) ?_; refine o_alloc (l := Ec 0#256) (by rw [Ec_zero]; rfl) rfl fun b9 => ?_; refine oA ?_; refine o_stW rfl rfl upA lnA lnA onA ?_; refine oZ hK8 (cR fun _ hK9 => ?_); refine oM ?_; refine oS sN ?_; refine oS sF ?_; refine oS sL ?_; refine oS sC (oM (oZ hK9 (c_block ?_))); refine c_loop2 (fun (p : Nat) (Sr2 : Hp) => p ≤ X.sets.length ∧ OwnS E3 3 90 (.slice (some ⟨b22, 0, none⟩) atoms.length atoms.length) ((filZ 0 ((rdsOf X.sets atoms).take k) atoms.length).set k (rdTo X.sets a p)) Sr2) (fun (p : Nat) (Sr2 : Hp) => [(35, .int .i64 p)]) [(0, _), (4, _), (5, _), (6, _), (7, _), (8, _), (9, _), (23, _), (24, _), (25, _), (26, _), (27, _), (28, _), (29, _), (30, _), (31, _), (32, _), (33, _), (34, _)] (fun (p : Nat) (Sr2 : Hp) => (b9, .cells (Ec a).toArray 39 (0, 0)) :: (b7, .cells [.slice (some ⟨b22, 0, none⟩) atoms.length atoms.length].toArray 84 (0, 0)) :: (b5, .cells [.slice aa atoms.length ac].toArray 26 (0, 0)) :: (b4, .cells (Ep4 (root)).toArray 93 (0, 0)) :: (b6, .cells [.slice none 0 0, .slice none 0 0].toArray 96 (0, 0)) :: (Sr2 ++ ((bx, .cells [.slice ra rc0 rc, .slice sa X.sets.length sc, .slice fa X.fol.length fc].toArray 86 (0, 0)) :: (Sf ++ Ss)))) (fun (p : Nat) (Sr2 : Hp) => X.sets.length - p) 0 Sr ⟨Nat.zero_le _, by rw [show rdTo X.sets a 0 = 0 from rfl, filZ_set0 htk (by omega)]; exact hR⟩ sbA sbA hzB ?_
   rintro p Sr2 ⟨hp, hRp⟩
   refine cR fun _ hK10 => ?_; refine oS (s_lss rfl rfl) ?_; refine oZ hK10 (c_seq fun _ hK11 => ?_); refine c_if rfl (fun hlp => ?_) (fun hlp => ?_)
   ·obtain ⟨cp, hcp⟩ : ∃ c, X.sets[p]? = some c := gE
    refine c_skip (xZ hK11 (c_seq fun _ hK12 => ?_)); refine c_block (cR fun _ hK13 => ?_); refine oM ?_; refine oS (s_idx rfl rfl hss (by omega)) ?_; refine oS (s_ldB rfl ((hs.rdk hiA).lds p hcp (by simp only [Int.toNat_natCast])) lnA) ?_; refine o_alloc (l := Ec 0#256) (by rw [Ec_zero]; rfl) rfl fun b11 => ?_; refine oA ?_; refine o_stW rfl rfl upA lnA lnA onA ?_; refine oZ hK13 (cR fun _ hK14 => ?_); refine oS (s_ldB rfl (RdPK.cels (.own meA)) lnA) ?_; refine oS (s_ldB rfl (RdPK.cels (.own meA)) lnA) ?_; refine o_callP (and_fn cp a) rfl rfl rfl (fun _ _ => trivial) (fun v42 hv42 => ?_); subst hv42
    refine oS (s_build0 rfl) ?_
    by_cases hne : cp &&& a ≠ 0#256
    ·refine oS (step_cast (v' := .bool true) (s_neq_cl (c := cp &&& a) (d := 0#256) rfl (by rw [Ec_zero]; rfl)) (congrArg Value.bool (decide_eq_true hne))) ?_; refine oZ hK14 ?_; refine cT ?_; refine c_drawE ((b11, .cells (Ec cp).toArray 39 (0, 0)) :: (b9, .cells (Ec a).toArray 39 (0, 0)) :: (b7, .cells [.slice (some ⟨b22, 0, none⟩) atoms.length atoms.length].toArray 84 (0, 0)) :: (b5, .cells [.slice aa atoms.length ac].toArray 26 (0, 0)) :: (b4, .cells (Ep4 (root)).toArray 93 (0, 0)) :: (b6, .cells [.slice none 0 0, .slice none 0 0].toArray 96 (0, 0)) :: (Sr2 ++ ((bx, .cells [.slice ra rc0 rc, .slice sa X.sets.length sc, .slice fa X.fol.length fc].toArray 86 (0, 0)) :: (Sf ++ Ss)))) (fun i => Nat.beq i 9) ?_; refine eK 0 rfl sL ?_; refine eP 1 rfl sM ?_; refine eK 2 rfl sL ?_; refine eP 3 rfl sM ?_; refine eP 4 rfl (s_idx rfl rfl hs22 (by omega)) ?_; refine eK 5 rfl (s_ldB rfl ((hRp.rdk hiA).lds k (filZ_get htk (by omega)) (by simp only [Int.toNat_natCast])) lnA) ?_; refine eP 6 rfl sM (eO 7 rfl ?_); refine o_callP (with_fn (rdTo X.sets a p) p (by omega)) rfl rfl rfl (fun _ _ => trivial) (fun v52 hv52 => ?_); subst hv52
     refine oX ?_; refine eP 8 rfl (s_idx rfl rfl hs22 (by omega)) ?_; refine eO 9 rfl ?_; refine o_stSE k (rdTo X.sets a p ||| pit p) hRp pkA rfl rfl (by rw [List.length_set, filZ_len (by omega)]; omega) (by simp only [Int.toNat_natCast]) fun S53 hS53 => ?_
     rw [List.set_set] at hS53
     refine o_nil ?_; refine x_oneL rfl ?_; refine e_done (by kernel_rfl) ?_; refine x_block (xZ hK12 (c_region ?_)); refine oS sD (oM (o_nil ?_)); exact xI (p + 1, _) ⟨by omega, by rw [rdTo_yes hcp hne]; exact hS53⟩
    ·refine oS (step_cast (v' := .bool false) (s_neq_cl (c := cp &&& a) (d := 0#256) rfl (by rw [Ec_zero]; rfl)) (congrArg Value.bool (decide_eq_false hne))) ?_; refine oZ hK14 ?_; refine cF (c_skip (x_block (xZ hK12 (c_region ?_)))); refine oS sD (oM (o_nil ?_)); exact xI (p + 1, _) ⟨by omega, by rw [rdTo_no hcp hne]; exact hRp⟩
   ·obtain rfl : p = X.sets.length := by omega
    rw [filZ_set htk (by omega)] at hRp
    refine c_exit ?_; refine x_then_exit (x_then_exit (x_block_exit (x_block (xZ hK7 (c_region ?_))))); refine oS sD (oM (o_nil ?_)); exact xI (k + 1, _) ⟨by omega, by rw [take_succ_get (rdsOf_get hak)]; exact hRp⟩
  ·obtain rfl : k = atoms.length := by omega
   have hT : (rdsOf X.sets atoms).take atoms.length = (rdsOf X.sets atoms) := by rw [← hrl, List.take_length]
   rw [hT, filZ_full hrl] at hR
   refine c_exit ?_; refine x_then_exit (x_then_exit (x_block_exit (xZ hK3 (cR fun _ hK15 => ?_)))); refine o_alloc rfl rfl fun b12 => ?_; refine oZ hK15 (cR fun _ hK16 => ?_); refine o_mmap2 (Ek := EkS) rfl fun b56 => ?_; refine o_alloc rfl rfl fun b13 => ?_; refine o_store rfl rfl rfl upA ltA rfl ?_; refine oZ hK16 (cR fun _ hK17 => ?_); refine o_alloc rfl rfl fun b14 => ?_; refine oZ hK17 (cR fun _ hK18 => ?_); refine oS (s_func (us := []) (vs := [_, _]) rfl rfl) ?_; refine o_alloc rfl rfl fun b15 => ?_; refine o_store rfl rfl rfl upA ltA rfl ?_; refine oZ hK18 (c_seq fun _ hK19 => ?_)
   have hSt00 : StS b13 b14 [] [(b13, .cells [.map (some b56)].toArray 159 (0, 0)), (b56, mxO EkS [] 0), (b14, .cells [.slice none 0 0].toArray 84 (0, 0))] := ⟨b56, [], 0, none, 0, [], rfl, OwnS.nil, List.nodup_nil, fun s => rfl⟩
   have hW00 : WdS b12 [] [] [(b12, .cells [.slice none 0 0, .slice none 0 0].toArray 96 (0, 0))] := ⟨none, 0, [], none, 0, [], [], [], rfl, OwnS.nil, OwnS.nil, .nil, rfl⟩
   refine c_region ?_; refine oS (s_func (us := []) (vs := [_, _, _, _]) rfl rfl) ?_; refine oA (oZ hK19 (cR fun _ hK20 => ?_)); refine oM ?_; refine oS sF ?_; refine oS (s_indexA rfl rfl (by omega)) ?_; refine oS (s_ldB rfl ((RdPK.cels (RdPK.own' meA (Ep4_F (i := 1) (by omega) (by omega))))) lnA) ?_; refine oS sF ?_; refine oS (s_indexA rfl rfl (by omega)) ?_; refine oS (s_indexA rfl rfl (by omega)) ?_; refine oS (s_ld rfl (.own meA (Ep4_N (i := 1) (k := 1) (by omega) (by omega) (by omega)))) ?_; refine o_callC (us := []) (vs := [_, _]) (cs := [.pointer (some ⟨b5, 0, none⟩), .pointer (some ⟨b7, 0, none⟩), .pointer (some ⟨b15, 0, none⟩), .pointer (some ⟨b12, 0, none⟩)]) (row_fn b5 b7 b12 b13 b14 b15 aa atoms.length ac (some ⟨b22, 0, none⟩) atoms.length atoms.length (rdsOf X.sets atoms) Sr hR hrl.symm hrl.symm (by omega) [] _ hSt00 [] [] _ hW00 (by simp) (by simp) (getF root 1) (getN root 1 1)) rfl rfl rfl ((Pick.takeC pkA (Pick.takeC pkA (Pick.takeC pkA (Pick.takeA pkA (Pick.takeA pkA (Pick.takeC pkA (Pick.takeC pkA pkA)))))))) (fun _ _ => trivial) (fun v67 S67 ⟨SS0, SW0, hS67, hSt0, hW0⟩ => ?_)
   subst hS67; refine oZ hK20 (c_seq fun _ hK21 => ?_); refine cR fun _ hK22 => ?_; refine oA (oZ hK22 (c_block ?_)); refine c_loop4 (fun (q : Nat) (W : Wd) (SW : Hp) (SS : Hp) => wdRun X.fol (rdsOf X.sets atoms) root.l1 (full - q) q W = wideM X root atoms ∧ q ≤ full ∧ StS b13 b14 W.met SS ∧ WdS b12 W.next W.ends SW ∧ W.next.length = q + 1 ∧ W.ends.length = q + 1 ∧ q ≤ W.met.length) (fun (q : Nat) (W : Wd) (SW : Hp) (SS : Hp) => [(17, .int .i64 q)]) [(0, _), (4, _), (6, _), (12, _), (14, _), (16, _)] (fun (q : Nat) (W : Wd) (SW : Hp) (SS : Hp) => (b15, .cells [.func (.func 106) [].toArray [.pointer (some ⟨b13, 0, none⟩), .pointer (some ⟨b14, 0, none⟩)].toArray].toArray 160 (0, 0)) :: (b7, .cells [.slice (some ⟨b22, 0, none⟩) atoms.length atoms.length].toArray 84 (0, 0)) :: (b5, .cells [.slice aa atoms.length ac].toArray 26 (0, 0)) :: (b4, .cells (Ep4 (root)).toArray 93 (0, 0)) :: (b6, .cells [.slice none 0 0, .slice none 0 0].toArray 96 (0, 0)) :: (Sr ++ (SW ++ (SS ++ ((bx, .cells [.slice ra rc0 rc, .slice sa X.sets.length sc, .slice fa X.fol.length fc].toArray 86 (0, 0)) :: (Sf ++ Ss)))))) (fun (q : Nat) (W : Wd) (SW : Hp) (SS : Hp) => full - q) 0 (wdInit (rdsOf X.sets atoms) root) SW0 SS0 ⟨rfl, Nat.zero_le _, hSt0, hW0, rfl, rfl, Nat.zero_le _⟩ sbA sbA hzB ?_
   rintro q W SW SS ⟨hrun, hqf, hSt, hW, hnl, hel, hqm⟩
   have hql := sets_len hSt.choose_spec.choose_spec.choose_spec.choose_spec.choose_spec.choose_spec.2.2.1
   obtain ⟨bm, es, c, ma, mc, Sm, rfl, hO, hnd, hg⟩ := hSt
   have hms := hO.sl
   refine c_seq fun _ hK23 => ?_; refine cR fun _ hK24 => ?_; refine oM ?_; refine oS sL ?_; refine oS sC ?_; refine oS (s_lss rfl rfl) ?_; refine oZ hK24 ?_; refine c_if rfl (fun hlq => ?_) (fun hlq => ?_)
   ·obtain ⟨s, hsq⟩ : ∃ s, W.met[q]? = some s := gE
    have hstep := wdRun_step (fol := X.fol) (rds := (rdsOf X.sets atoms)) (l1 := root.l1) (f := full - q) (q := q) (w := W) (by omega) hnd (by omega)
    rw [show full - q - 1 = full - (q + 1) by omega] at hstep
    have hst : wdStep X.fol (rdsOf X.sets atoms) root.l1 q W = (⟨(rowT (rdsOf X.sets atoms) (folTo X.fol s X.fol.length) W.met).2, W.next ++ [(rowT (rdsOf X.sets atoms) (folTo X.fol s X.fol.length) W.met).1], W.ends ++ [decide (s &&& getL root 1 ≠ 0)]⟩ : Wd) := by simp only [wdStep, Wd.row, hsq, Option.getD_some]; rfl
    rw [hst] at hstep
    have hmono := rowT_mono (folTo X.fol s X.fol.length) (rdsOf X.sets atoms) W.met
    refine c_skip (xZ hK23 (c_seq fun _ hK25 => ?_)); refine c_block (cR fun _ hK26 => ?_); refine o_alloc (l := E3 0) (by rfl) rfl fun b18 => ?_; refine oZ hK26 (c_seq fun _ hK27 => ?_); refine cR fun _ hK28 => ?_; refine oM ?_; refine oS sN ?_; refine oS sF ?_; refine oS sL ?_; refine oS sC (oM (oZ hK28 (c_block ?_))); refine c_loopB (fun (p : Nat) => p ≤ X.fol.length) (fun (p : Nat) => [(79, .int .i64 p)]) [(0, _), (4, _), (6, _), (12, _), (14, _), (16, _), (17, _), (18, _), (68, _), (69, _), (70, _), (71, _), (74, _), (75, _), (76, _), (77, _), (78, _)] (fun (p : Nat) => (b18, .cells (E3 (folTo X.fol s p)).toArray 90 (0, 0)) :: (b13, .cells [.map (some bm)].toArray 159 (0, 0)) :: (bm, mxO EkS es c) :: (b14, .cells [.slice ma (W.met).length mc].toArray 84 (0, 0)) :: (Sm ++ ((b15, .cells [.func (.func 106) [].toArray [.pointer (some ⟨b13, 0, none⟩), .pointer (some ⟨b14, 0, none⟩)].toArray].toArray 160 (0, 0)) :: (b7, .cells [.slice (some ⟨b22, 0, none⟩) atoms.length atoms.length].toArray 84 (0, 0)) :: (b5, .cells [.slice aa atoms.length ac].toArray 26 (0, 0)) :: (b4, .cells (Ep4 (root)).toArray 93 (0, 0)) :: (b6, .cells [.slice none 0 0, .slice none 0 0].toArray 96 (0, 0)) :: (Sr ++ (SW ++ ((bx, .cells [.slice ra rc0 rc, .slice sa X.sets.length sc, .slice fa X.fol.length fc].toArray 86 (0, 0)) :: (Sf ++ Ss))))))) (fun (p : Nat) => X.fol.length - p) 0 (Nat.zero_le _) sbA sbA hzB ?_
    rintro p hp
    refine cR fun _ hK29 => ?_; refine oS (s_lss rfl rfl) ?_; refine oZ hK29 (c_seq fun _ hK30 => ?_); refine c_if rfl (fun hlf => ?_) (fun hlf => ?_)
    ·obtain ⟨fp, hfp⟩ : ∃ f, X.fol[p]? = some f := gE
     refine c_skip (xZ hK30 (c_seq fun _ hK31 => ?_)); refine c_block (cR fun _ hK32 => ?_); refine oM (oA (oZ hK32 (cR fun _ hK33 => ?_))); refine oS sL (oM ?_); refine oS (s_idx rfl rfl hms (by omega)) ?_; refine oS (s_ldB rfl ((hO.rdk hiA).lds q hsq (by simp only [Int.toNat_natCast])) lnA) ?_; refine oM ?_; refine o_callP (hasS_fn s p (by omega)) rfl rfl rfl (fun _ _ => trivial) (fun v87 hv87 => ?_); subst hv87
     cases hb : BitVec.getLsbD s p
     ·refine oZ hK33 ?_; refine cF (c_skip (x_block (xZ hK31 (c_region ?_)))); refine oS sD (oM (o_nil ?_)); exact x_then (x_inv (p + 1) (by omega) (by first | omega | (dsimp only; omega)) sbA (by rw [folTo_no hb]; exact hzB))
     ·refine oZ hK33 ?_; refine cT ?_; refine c_drawE ((b18, .cells (E3 (folTo X.fol s p)).toArray 90 (0, 0)) :: (Sf ++ [(bx, .cells [.slice ra rc0 rc, .slice sa X.sets.length sc, .slice fa X.fol.length fc].toArray 86 (0, 0)), (b14, .cells [.slice ma (W.met).length mc].toArray 84 (0, 0))])) (fun i => Nat.beq i 9) ?_; refine eK 0 rfl (s_ldB rfl (RdPK.cels (.own meA)) lnA) ?_; refine eP 1 rfl sM ?_; refine eP 2 rfl sN ?_; refine eP 3 rfl sF ?_; refine eK 4 rfl sL ?_; refine eP 5 rfl sM ?_; refine eP 6 rfl (s_idx rfl rfl hfs (by omega)) ?_; refine eK 7 rfl (s_ldB rfl ((hf.rdk hiA).lds p hfp (by simp only [Int.toNat_natCast])) lnA) ?_; refine eO 8 rfl ?_; refine o_callP (orS_fn (folTo X.fol s p) fp) rfl rfl rfl (fun _ _ => trivial) (fun v96 hv96 => ?_)
      rw [← folTo_yes hfp hb] at hv96
      subst hv96; refine oX (eO 9 rfl ?_); refine o_stW rfl rfl upA lnA lnA onA ?_; refine o_nil ?_; refine x_oneL rfl ?_; refine e_done (by kernel_rfl) ?_; refine x_block (xZ hK31 (c_region ?_)); refine oS sD (oM (o_nil ?_)); exact xI (p + 1) (by omega)
    ·obtain rfl : p = X.fol.length := by omega
     refine c_exit ?_; refine x_then_exit (x_then_exit (x_block_exit (xZ hK27 ?_))); refine c_drawE ((b18, .cells (E3 (folTo X.fol s X.fol.length)).toArray 90 (0, 0)) :: (b4, .cells (Ep4 (root)).toArray 93 (0, 0)) :: (b14, .cells [.slice ma (W.met).length mc].toArray 84 (0, 0)) :: Sm) (fun i => Nat.beq i 10) ?_; refine eP 0 rfl sM ?_; refine e_takeT 1 rfl (by kernel_rfl) (by kernel_rfl) (by kernel_rfl) 40 (by kernel_rfl) (by kernel_rfl) (fun _ _ => rfl) rfl hzB (s_ldB rfl (RdPK.cels (.own meA)) lnA) ?_; refine e_takeT 2 rfl (by kernel_rfl) (by kernel_rfl) (by kernel_rfl) 40 (by kernel_rfl) (by kernel_rfl) (fun _ _ => rfl) rfl hzB (s_ld rfl (.own meA rfl)) ?_; refine eP 3 rfl sM ?_; refine eP 4 rfl (s_idx rfl rfl hms (by omega)) ?_; refine e_takeT 5 rfl (by kernel_rfl) (by kernel_rfl) (by kernel_rfl) 40 (by kernel_rfl) (by kernel_rfl) (fun _ _ => rfl) rfl hzB (s_ldB rfl ((hO.rdk hiA).lds q hsq (by simp only [Int.toNat_natCast])) lnA) ?_; refine eP 6 rfl sF ?_; refine eP 7 rfl (s_indexA rfl rfl (by omega)) ?_; refine e_takeT 8 rfl (by kernel_rfl) (by kernel_rfl) (by kernel_rfl) 40 (by kernel_rfl) (by kernel_rfl) (fun _ _ => rfl) rfl hzB (s_ldB rfl ((RdPK.cels (RdPK.own' meA (Ep4_L (i := 1) (by omega) (by omega))))) lnA) ?_; refine eO 9 rfl ?_; refine o_callP (meets_fn s (getL root 1)) rfl rfl rfl (fun _ _ => trivial) (fun v107 hv107 => ?_); subst hv107
     refine oX (eO 10 rfl ?_); refine o_callC (us := []) (vs := [_, _]) (cs := [.pointer (some ⟨b5, 0, none⟩), .pointer (some ⟨b7, 0, none⟩), .pointer (some ⟨b15, 0, none⟩), .pointer (some ⟨b12, 0, none⟩)]) (row_fn b5 b7 b12 b13 b14 b15 aa atoms.length ac (some ⟨b22, 0, none⟩) atoms.length atoms.length (rdsOf X.sets atoms) Sr hR hrl.symm hrl.symm (by omega) W.met _ ⟨bm, es, c, ma, mc, Sm, rfl, hO, hnd, hg⟩ W.next W.ends SW hW (by omega) (by omega) (folTo X.fol s X.fol.length) (decide (s &&& getL root 1 ≠ 0))) rfl rfl rfl ((Pick.takeC pkA (Pick.takeC pkA (Pick.takeC pkA (Pick.takeA pkA (Pick.takeA pkA (Pick.takeC pkA (Pick.takeC pkA (Pick.takeC pkA pkA))))))))) (fun _ _ => trivial) (fun v108 S108 ⟨SS9, SW9, hS108, hSt9, hW9⟩ => ?_); subst hS108
     refine o_nil ?_; refine x_oneL rfl ?_; refine e_done (by kernel_rfl) ?_; refine x_block (xZ hK25 (c_region (oM ?_))); refine oS sD (oA (o_nil ?_)); exact xI (q + 1, (⟨(rowT (rdsOf X.sets atoms) (folTo X.fol s X.fol.length) W.met).2, W.next ++ [(rowT (rdsOf X.sets atoms) (folTo X.fol s X.fol.length) W.met).1], W.ends ++ [decide (s &&& getL root 1 ≠ 0)]⟩ : Wd), SW9, SS9) ⟨by rw [← hrun, hstep.1], by omega, hSt9, hW9, by simp [hnl], by simp [hel], by dsimp only; omega⟩
   ·have hWR := hrun.symm.trans (wdRun_end (by omega))
    have hqe : q = W.met.length := by omega
    obtain ⟨na, nc, rows, ea, ec, Sn, Se, Sq, rfl, hn, he, hq, hnx⟩ := hW
    rw [hqe] at hnl hel
    subst hWR; refine c_exit ?_; refine x_then_exit (x_then_exit (x_block_exit (xZ hK21 (cR fun _ hK34 => ?_)))); refine oS (s_ldB rfl (RdPK.cels (.own meA)) lnA) ?_; refine o_stW rfl rfl upA lnA lnA onA ?_; refine oZ hK34 (c_ret ?_); refine ?_; exact x_ret rfl (.agg inferInstance inferInstance rfl (RdPK.cels (.own meA)) lnA (.nil)) (⟨Sn ++ (Se ++ (Sq ++ ((bx, .cells [.slice ra rc0 rc, .slice sa X.sets.length sc, .slice fa X.fol.length fc].toArray 86 (0, 0)) :: (Sf ++ Ss)))), by exact hzB, na, nc, rows, ea, ec, Sn, Se, Sq, rfl, rfl, hn, he, hq, hnx, hnd, hnl, hel⟩)
set_option maxHeartbeats 2000000 in
theorem wide_fn (bx : Nat) (ra : Option Addr) (rc rc0 : Nat) (X : Plc) (S : Hp) (hP : PlS bx ra rc rc0 X S) (root : Pt) (aa : Option Addr) (ac : Nat) (atoms : List Kl.Cl) (hx : X.fol.length = X.sets.length) (hx20 : X.sets.length ≤ 20) (hal : atoms.length ≤ 256) : HL.Fn Tryz.prog 41 [.pointer (some ⟨bx, 0, none⟩), .agg (Ep4 (root)).toArray, .slice aa atoms.length ac] (fun w => Rd Ec w (.slice aa atoms.length ac) atoms ∧ Apart (keys S) (.slice aa atoms.length ac)) S (fun v S' => ∃ (na : Option Addr) (nc : Nat) (rows : List (Sl Nat)) (ea : Option Addr) (ec : Nat) (Sn Se Sq : Hp), v = .agg [.slice na rows.length nc, .slice ea (wideM X root atoms).ends.length ec].toArray ∧ S' = Sn ++ (Se ++ (Sq ++ S)) ∧ OwnS Esl 1 36 (.slice na rows.length nc) rows Sn ∧ OwnS Ebo 1 4 (.slice ea (wideM X root atoms).ends.length ec) (wideM X root atoms).ends Se ∧ OwnL Eix 1 3 rows (wideM X root atoms).next Sq ∧ (wideM X root atoms).next = rows.map Sl.xs ∧ (wideM X root atoms).met.Nodup ∧ (wideM X root atoms).next.length = (wideM X root atoms).met.length + 1 ∧ (wideM X root atoms).ends.length = (wideM X root atoms).met.length + 1) :=
  HL.Fn.sub (wideO_fn bx ra rc rc0 X S hP root aa ac atoms hx hx20 hal) fun v S' ⟨S2, h1, h2⟩ => ⟨S2, h1, h2⟩
end Go.Proofs.YtmompllplidphaaGreatDoor
