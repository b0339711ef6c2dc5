/- Part of the proofs over this seat: see the text that holds the theorem. Conditions: each theorem bears its own. -/
import Derived.Test.YtmompllplidphaaDoorKQ8Z
import Derived.Test.YtmompllplidphaaDoorMT7Z
namespace Go.Proofs.YtmompllplidphaaDoor
open Go Go.HL Go.Proofs Go.HL.Kl
theorem tz_fn (w : BitVec 64) : HL.Fn Tryd.prog 74 [Ew w] (fun w => RdP w 0 0 tabV) [] (fun v _ => v = .int .i64 (Lib.ctz 64 w.toNat)) := by
  refine fn_of Tryd.func74 rfl rfl rfl fun w0 hw => ?_
  refine c_seq fun _ hK1 => ?_
  refine c_region ?_
  refine o_step rfl (s_assign rfl) ?_
  refine o_nil ?_
  refine x_then (hK1 _ _ ?_)
  refine c_seq fun _ hK2 => ?_
  refine c_seq fun _ hK3 => ?_
  refine c_region ?_
  refine o_step rfl (s_move rfl) ?_
  refine o_step rfl (s_eql rfl rfl) ?_
  refine o_nil ?_
  refine x_then (hK3 _ _ ?_)
  refine c_if rfl (fun hz => ?_) (fun hz => ?_)
  · skip
    refine c_seq fun _ hK4 => ?_
    refine c_region ?_
    refine o_step rfl (s_assign rfl) ?_
    refine o_nil ?_
    refine x_then (hK4 _ _ ?_)
    refine c_ret ?_
    refine x_then_ret (?_)
    exact x_ret rfl (.tmp rfl (.nil)) (congrArg (Value.int .i64) (by rw [ctz_zero hz]; rfl))
  · skip
    obtain ⟨hi1, hi2⟩ := tab_at w hz
    refine c_skip ?_
    refine x_then (hK2 _ _ ?_)
    refine c_seq fun _ hK5 => ?_
    refine c_region ?_
    refine o_step rfl (s_move rfl) ?_
    refine o_step rfl (s_move rfl) ?_
    refine o_step rfl (step_cast (v' := Ew (-w)) (s_neg rfl) (v_neg w)) ?_
    refine o_step rfl (step_cast (v' := Ew (w &&& -w)) (s_and rfl rfl) (v_and w (-w))) ?_
    refine o_step rfl (step_cast (v' := Ew ((w &&& -w) * 285870213051353865#64)) (s_mulw rfl rfl) (v_mulc _)) ?_
    refine o_step rfl (step_cast (v' := Ew (((w &&& -w) * 285870213051353865#64) >>> 58)) (s_shr rfl rfl (by decide)) (v_shr _ 58 rfl)) ?_
    refine o_step rfl (s_idx1 (i := (((w &&& -w) * 285870213051353865#64) >>> 58).toNat) rfl rfl hi1) ?_
    refine o_step rfl (s_ld rfl ((RdPK.old0 hw).cel (j := (((w &&& -w) * 285870213051353865#64) >>> 58).toNat) hi2 (by omega))) ?_
    refine o_step rfl (step_cast (v' := .int .i64 ((Lib.ctz 64 w.toNat : Nat) : Int)) (s_conv rfl) (congrArg _ (conv64 (by have := ctz_le w; omega)))) ?_
    refine o_step rfl (s_assign rfl) ?_
    refine o_nil ?_
    refine x_then (hK5 _ _ ?_)
    refine c_ret ?_
    refine ?_
    exact x_ret rfl (.tmp rfl (.nil)) (rfl)
theorem all_fn (c : Cl) : HL.Fn Tryd.prog 36 [.agg (Ec c).toArray] (fun _ => True) [] (fun v S' => ∃ b, v = .func (.func 73) [].toArray [.pointer (some ⟨b, 0, none⟩)].toArray ∧ S' = [(b, .cells (Ec c).toArray 54 (0, 0))]) := by
  refine fn_of Tryd.func36 rfl rfl rfl fun w0 hw => ?_
  refine c_seq fun _ hK1 => ?_
  refine c_region ?_
  refine o_box rfl rfl rfl fun b1 => ?_
  refine o_step rfl (s_assign rfl) ?_
  refine o_nil ?_
  refine x_then (hK1 _ _ ?_)
  refine c_seq fun _ hK2 => ?_
  refine c_region ?_
  refine o_step rfl (s_func (us := []) (vs := [_]) rfl rfl) ?_
  refine o_step rfl (s_assign rfl) ?_
  refine o_nil ?_
  refine x_then (hK2 _ _ ?_)
  refine c_ret ?_
  refine ?_
  exact x_ret rfl (.tmp rfl (.nil)) (⟨_, rfl, rfl⟩)
theorem all1_fn (b : Nat) (c : Cl) (l : Nat) (HS HX : List Nat → Hp → Prop) (hY : ∀ (pre : List Nat) (x : Nat) (B : Hp), HS pre B → pre ++ [x] <+: mems c → Yd Tryd.prog l [.int .u8 x] B (fun v B' => (v = .bool true ∧ HS (pre ++ [x]) B') ∨ (v = .bool false ∧ HX (pre ++ [x]) B'))) (B : Hp) (hB : HS [] B) : HL.Fn Tryd.prog 73 [.func (.yield l) #[] #[], .pointer (some ⟨b, 0, none⟩)] (Tb ([(b, .cells (Ec c).toArray 54 (0, 0))] ++ B)) ([(b, .cells (Ec c).toArray 54 (0, 0))] ++ B) (fun _ S' => ∃ S1 B', S' = S1 ++ B' ∧ S1 = [(b, .cells (Ec c).toArray 54 (0, 0))] ∧ (HS (mems c) B' ∨ ∃ p, p <+: mems c ∧ HX p B')) := by
  refine fn_of Tryd.func73 rfl rfl rfl fun w0 hw => ?_
  refine c_seq fun _ hK1 => ?_
  refine c_region ?_
  refine o_step rfl (s_move rfl) ?_
  refine o_nil ?_
  refine x_then (hK1 _ _ ?_)
  refine c_block ?_
  refine c_loop2 (fun (i : Nat) (B : Hp) => i ≤ 4 ∧ HS (memsTo c (64 * i)) B) (fun (i : Nat) (B : Hp) => [(5, .int .i64 i)]) [(0, _), (1, _)] (fun (i : Nat) (B : Hp) => [(b, .cells (Ec c).toArray 54 (0, 0))] ++ B) (fun (i : Nat) (B : Hp) => 4 - i) 0 B ⟨by omega, hB⟩ sbA sbA (by exact HSub.refl _) ?_
  rintro i B ⟨hi, hH⟩
  refine c_seq fun _ hK2 => ?_
  refine c_region ?_
  refine o_step rfl (s_lss rfl rfl) ?_
  refine o_nil ?_
  refine x_then (hK2 _ _ ?_)
  refine c_seq fun _ hK3 => ?_
  refine c_if rfl (fun hlt => ?_) (fun hlt => ?_)
  · skip
    have hlt4 : i < 4 := by omega
    refine c_skip ?_
    refine x_then (hK3 _ _ ?_)
    refine c_seq fun _ hK4 => ?_
    refine c_block ?_
    refine c_seq fun _ hK5 => ?_
    refine c_quiet (by kernel_rfl) ?_
    refine .op rfl (s_move rfl) ?_
    refine .op rfl (s_nil rfl) ?_
    refine .op rfl (s_idx1 rfl rfl (by omega)) ?_
    refine .op rfl (s_ld rfl ((RdPK.own meA).cel (j := i) (Ec_get _ (by omega)) (by omega))) ?_
    refine .op rfl (s_assign rfl) ?_
    refine .op rfl (s_assign rfl) ?_
    refine .nil ?_
    refine x_then (hK5 _ _ ?_)
    refine c_block ?_
    refine c_loop3 (fun (w : BitVec 64) (p : List Nat) (B2 : Hp) => mems c = p ++ (wmem i w ++ (mems c).drop (memsTo c (64 * i + 64)).length) ∧ HS p B2) (fun (w : BitVec 64) (p : List Nat) (B2 : Hp) => [(4, Ew w)]) [(0, _), (1, _), (3, _), (5, _), (6, _), (7, _), (8, _), (9, _), (10, _)] (fun (w : BitVec 64) (p : List Nat) (B2 : Hp) => [(b, .cells (Ec c).toArray 54 (0, 0))] ++ B2) (fun (w : BitVec 64) (p : List Nat) (B2 : Hp) => (wmem i w).length) (wd c i) (memsTo c (64 * i)) B ⟨mems_from c hlt4, hH⟩ sbA sbA (by exact HSub.refl _) ?_
    rintro w p B2 ⟨hm, hH2⟩
    refine c_seq fun _ hK6 => ?_
    refine c_seq fun _ hK7 => ?_
    refine c_region ?_
    refine o_step rfl (s_move rfl) ?_
    refine o_step rfl (s_neq rfl rfl) ?_
    refine o_nil ?_
    refine x_then (hK7 _ _ ?_)
    refine c_if rfl (fun hne => ?_) (fun hne => ?_)
    · skip
      have hw0 : w ≠ 0#64 := ne_zero hne
      have hc := wmem_cons i w hw0
      have hkt := (ctz_lt w hw0).1
      have hpre : p ++ [64 * i + Lib.ctz 64 w.toNat] <+: mems c := ⟨_, by rw [hm, hc, List.append_assoc]; rfl⟩
      refine c_skip ?_
      refine x_then (hK6 _ _ ?_)
      refine c_seq fun _ hK8 => ?_
      refine c_block ?_
      refine c_seq fun _ hK9 => ?_
      refine c_region ?_
      refine o_step rfl (s_move rfl) ?_
      refine o_step rfl (s_move rfl) ?_
      refine o_step rfl (step_cast (v' := .int .i64 ((64 * i : Nat) : Int)) (s_shl rfl rfl (by decide)) (congrArg _ (shl6 hlt4))) ?_
      refine o_step rfl (s_move rfl) ?_
      refine o_callP (tz_fn w) rfl rfl rfl (fun w st => (RdPK.old hw.1 hw.2).out w st) (fun v21 hv21 => ?_)
      subst hv21
      refine o_step rfl (step_cast (v' := .int .i64 ((64 * i + Lib.ctz 64 w.toNat : Nat) : Int)) (s_add rfl rfl (by omega)) (by rw [Int.natCast_add])) ?_
      refine o_step rfl (step_cast (v' := .int .u8 ((64 * i + Lib.ctz 64 w.toNat : Nat) : Int)) (s_conv rfl) (congrArg _ (conv8 (by omega)))) ?_
      refine o_yield (hY p _ B2 hH2 hpre) rfl rfl rfl pkA (fun v24 S24 hv24 => ?_)
      rcases hv24 with ⟨rfl, hH3⟩ | ⟨rfl, hX3⟩
      · skip
        refine o_step rfl (s_not rfl) ?_
        refine o_nil ?_
        refine x_then (hK9 _ _ ?_)
        refine c_false rfl ?_
        refine c_skip ?_
        refine x_block ?_
        refine x_then (hK8 _ _ ?_)
        refine c_region ?_
        refine o_step rfl (s_move rfl) ?_
        refine o_step rfl (s_move rfl) ?_
        refine o_step rfl (step_cast (v' := Ew (w - 1#64)) (s_subw rfl rfl) (v_sub1 w)) ?_
        refine o_step rfl (step_cast (v' := Ew (w &&& (w - 1#64))) (s_and rfl rfl) (v_and _ _)) ?_
        refine o_step rfl (s_assign rfl) ?_
        refine o_nil ?_
        exact x_then (x_inv (w &&& (w - 1#64), p ++ [64 * i + Lib.ctz 64 w.toNat], S24) ⟨hm.trans (by rw [hc]; simp [List.append_assoc]), hH3⟩ (by show (wmem i (w &&& (w - 1#64))).length < (wmem i w).length; rw [hc]; simp) sbA hzB)
      · skip
        refine o_step rfl (s_not rfl) ?_
        refine o_nil ?_
        refine x_then (hK9 _ _ ?_)
        refine c_true rfl ?_
        refine c_ret ?_
        refine x_block_ret (x_then_ret (x_then_ret (x_block_ret (x_block_ret (x_then_ret (x_then_ret (x_block_ret (?_))))))))
        refine x_sub (Sub.refl _) (H' := [(b, .cells (Ec c).toArray 54 (0, 0))] ++ S24) hzB ?_
        exact x_ret rfl (.nil) (⟨_, _, rfl, rfl, .inr ⟨_, hpre, hX3⟩⟩)
    · skip
      have hz0 : w = 0#64 := eq_zero hne
      refine c_exit ?_
      refine x_then_exit ?_
      refine x_then_exit ?_
      refine x_block_exit ?_
      refine x_block ?_
      refine x_then (hK4 _ _ ?_)
      refine c_region ?_
      refine o_step rfl (s_add rfl rfl (by omega)) ?_
      refine o_step rfl (s_move rfl) ?_
      refine o_nil ?_
      rw [words_end hlt4 hm hz0] at hH2
      exact x_then (x_inv (i + 1, B2) ⟨by omega, hH2⟩ (by first | omega | (dsimp only; omega)) sbA hzB)
  · skip
    obtain rfl : i = 4 := by omega
    refine c_exit ?_
    refine x_then_exit ?_
    refine x_then_exit ?_
    refine x_block_exit ?_
    exact x_end rfl (.nil) (⟨_, _, rfl, rfl, .inl hH⟩)
theorem all_it (b : Nat) (c : Cl) : It Tryd.prog 73 [] [.pointer (some ⟨b, 0, none⟩)] (fun x : Nat => [.int .u8 x]) (mems c) Tb [(b, .cells (Ec c).toArray 54 (0, 0))] (fun S1 => S1 = [(b, .cells (Ec c).toArray 54 (0, 0))]) :=
  ⟨enters_of Tryd.func73 rfl rfl, fun l HS HX hY B hB => all1_fn b c l HS HX hY B hB⟩
theorem least_fn (c : Cl) : HL.Fn Tryd.prog 87 [.agg (Ec c).toArray] (Tb []) [] (fun v _ => v = .int .i64 (least c)) := by
  refine fn_ofM Tryd.func87 rfl rfl rfl fun w0 hw => ?_
  refine c_seqD fun _ hK1 => ?_
  refine c_region ?_
  refine o_box rfl rfl rfl fun b1 => ?_
  refine o_alloc rfl rfl fun b2 => ?_
  refine o_nil ?_
  refine x_then (hK1 _ _ _ ?_)
  refine c_seqD fun _ hK2 => ?_
  refine c_seqD fun _ hK3 => ?_
  refine c_region ?_
  refine o_step rfl (s_ldB rfl (RdPK.cels (.own meA)) lnA) ?_
  refine o_call (all_fn c) rfl rfl rfl (by exact .nil) (fun _ _ => trivial) (fun v5 S5 ⟨b5, hv5, hS5⟩ => ?_)
  subst hv5
  subst hS5
  refine o_nil ?_
  refine x_then (hK3 _ _ _ ?_)
  refine c_block ?_
  refine c_range (α := Nat) (B0 := [(b2, .cells [.int .i64 0].toArray 3 (0, 0))]) (fun p B => p = [] ∧ B = [(b2, .cells [.int .i64 0].toArray 3 (0, 0))]) (fun c p B => c = .ret ∧ ∃ x : Nat, p = [x] ∧ B = [(b2, .cells [.int .i64 x].toArray 3 (0, 0))]) rfl (all_it b5 c) (pkA) ((fun w H1 S1 st hs => tb_of hw st hs)) ⟨rfl, rfl⟩ (by kernel_rfl) (fun _ => rfl) (by kernel_rfl) ?_ ?_ ?_
  · rintro l r p x B W er1 er2 ⟨rfl, rfl⟩ hx post hy hn
    have hxl : x < 256 := mems_lt hx
    refine c_region ?_
    refine o_step rfl (s_assign rfl) ?_
    refine o_nil ?_
    refine x_then (x_begin upA (by kernel_rfl) ?_)
    refine c_block ?_
    refine c_seqD fun _ hK4 => ?_
    refine c_region ?_
    refine o_step rfl (s_move rfl) ?_
    refine o_step rfl (step_cast (v' := .int .i64 ((x : Nat) : Int)) (s_conv rfl) (congrArg _ (conv64 (by omega)))) ?_
    refine o_store rfl rfl rfl upA (by first | decide | omega | (simp; done) | (simp; omega)) rfl ?_
    refine o_nil ?_
    refine x_then (hK4 _ _ _ ?_)
    refine c_ret ?_
    refine x_block_ret (?_)
    exact x_rret upA (hn _ _ ⟨rfl, x, rfl, rfl⟩)
  · rintro D0 S0r B0 rfl ⟨hm, rfl⟩
    refine x_block ?_
    refine x_then (hK2 _ _ _ ?_)
    refine c_seqD fun _ hK5 => ?_
    refine c_region ?_
    refine o_store rfl rfl rfl upA (by first | decide | omega | (simp; done) | (simp; omega)) rfl ?_
    refine o_nil ?_
    refine x_then (hK5 _ _ _ ?_)
    refine c_ret ?_
    refine ?_
    exact x_retM (.cons (.nil)) pkA rfl (.cell inferInstance rfl (.own meA rfl) (.nil)) (congrArg (Value.int .i64) (least_nil hm))
  · rintro D0 S0r c p B0 rfl hpx ⟨rfl, x, rfl, rfl⟩
    refine c_ret ?_
    refine x_block_ret (x_then_ret (?_))
    exact x_retM (.cons (.nil)) pkA rfl (.cell inferInstance rfl (.own meA rfl) (.nil)) (congrArg (Value.int .i64) (least_head hpx))
theorem atoms_fn (a : Option Addr) (n : Nat) (l : List Cl) : HL.Fn Tryd.prog 60 [.slice a l.length n] (fun w => Rd Ec w (.slice a l.length n) l ∧ Tb [] w) [] (fun v S' => ∃ a' n', v = .slice a' (atoms l).length n' ∧ OwnS Ec 4 54 (.slice a' (atoms l).length n') (atoms l) S') := by
  refine fn_of Tryd.func60 rfl rfl rfl fun w0 hw => ?_
  have hsl := hw.1.sl
  have hbl := hsl.le
  refine c_seq fun _ hK1 => ?_
  refine c_region ?_
  refine o_step rfl (s_assign rfl) ?_
  refine o_nil ?_
  refine x_then (hK1 _ _ ?_)
  refine c_seq fun _ hK2 => ?_
  refine c_region ?_
  refine o_callP (range_fn 0 255 (by decide) (by decide)) rfl rfl rfl (fun _ _ => trivial) (fun v13 hv13 => ?_)
  subst hv13
  refine o_bs (E := Ec) (xs := [rng 0 255]) (vs := [_]) rfl rfl rfl rfl rfl (by decide) (by decide) fun b14 S14 hS14 => ?_
  refine o_step rfl (s_assign rfl) ?_
  refine o_nil ?_
  refine x_then (hK2 _ _ ?_)
  refine c_seq fun _ hK3 => ?_
  refine c_seq fun _ hK4 => ?_
  refine c_region ?_
  refine o_step rfl (s_move rfl) ?_
  refine o_step rfl (s_len rfl) ?_
  refine o_step rfl (s_move rfl) ?_
  refine o_nil ?_
  refine x_then (hK4 _ _ ?_)
  refine c_block ?_
  refine c_loop4 (fun (i : Nat) (b : Option Addr) (m : Nat) (S : Hp) => i ≤ l.length ∧ OwnS Ec 4 54 (.slice b (parts (l.take i)).length m) (parts (l.take i)) S) (fun (i : Nat) (b : Option Addr) (m : Nat) (S : Hp) => [(17, .int .i64 i), (3, .slice b (parts (l.take i)).length m)]) [(2, _), (15, _), (16, _)] (fun (i : Nat) (b : Option Addr) (m : Nat) (S : Hp) => S) (fun (i : Nat) (b : Option Addr) (m : Nat) (S : Hp) => l.length - i) 0 (some ⟨b14, 0, none⟩) 1 S14 ⟨by omega, hS14⟩ sbA sbA (by exact HSub.of_pick pkA) ?_
  rintro i b m S ⟨hi, hS⟩
  have hss := hS.sl
  have hpl := parts_len (l.take i)
  refine c_seq fun _ hK5 => ?_
  refine c_region ?_
  refine o_step rfl (s_lss rfl rfl) ?_
  refine o_nil ?_
  refine x_then (hK5 _ _ ?_)
  refine c_seq fun _ hK6 => ?_
  refine c_if rfl (fun hlt0 => ?_) (fun hlt0 => ?_)
  · skip
    have hlt : i < l.length := by omega
    obtain ⟨c, hcl⟩ : ∃ c, c = l[i] := ⟨_, rfl⟩
    have hget : l[i]? = some c := by rw [hcl]; exact List.getElem?_eq_getElem hlt
    refine c_skip ?_
    refine x_then (hK6 _ _ ?_)
    refine c_seq fun _ hK7 => ?_
    refine c_block ?_
    refine c_seq fun _ hK8 => ?_
    refine c_region ?_
    refine o_step rfl (s_idx rfl rfl hsl (by omega)) ?_
    refine o_step rfl (s_ldB rfl ((RdK.old0 hw.1).lds i hget (by omega)) rfl) ?_
    refine o_alloc (l := Ec 0#256) (by rw [Ec_zero]; rfl) rfl fun b5 => ?_
    refine o_stW rfl rfl upA lnA lnA (by first | exact Ec_one _ | exact flat_one _ _ | exact one_rep rfl | (simp [Value.oneCell']; done)) ?_
    refine o_nil ?_
    refine x_then (hK8 _ _ ?_)
    refine c_seq fun _ hK9 => ?_
    refine c_region ?_
    refine o_step rfl (s_assign rfl) ?_
    refine o_nil ?_
    refine x_then (hK9 _ _ ?_)
    refine c_seq fun _ hK10 => ?_
    refine c_seq fun _ hK11 => ?_
    refine c_region ?_
    refine o_step rfl (s_move rfl) ?_
    refine o_step rfl (s_len rfl) ?_
    refine o_step rfl (s_move rfl) ?_
    refine o_nil ?_
    refine x_then (hK11 _ _ ?_)
    refine c_block ?_
    refine c_loop4 (fun (j : Nat) (b2 : Option Addr) (m2 : Nat) (S2 : Hp) => j ≤ (parts (l.take i)).length ∧ OwnS Ec 4 54 (.slice b2 (refine ((parts (l.take i)).take j) c).length m2) (refine ((parts (l.take i)).take j) c) S2) (fun (j : Nat) (b2 : Option Addr) (m2 : Nat) (S2 : Hp) => [(23, .int .i64 j), (6, .slice b2 (refine ((parts (l.take i)).take j) c).length m2)]) [(2, _), (3, _), (5, _), (15, _), (16, _), (17, _), (18, _), (19, _), (20, _), (21, _), (22, _)] (fun (j : Nat) (b2 : Option Addr) (m2 : Nat) (S2 : Hp) => S2 ++ (S ++ [(b5, .cells (Ec c).toArray 54 (0, 0))])) (fun (j : Nat) (b2 : Option Addr) (m2 : Nat) (S2 : Hp) => (parts (l.take i)).length - j) 0 none 0 [] ⟨by omega, .nil⟩ sbA sbA (by exact HSub.of_perm (List.perm_append_comm (l₁ := [_]) (l₂ := S))) ?_
    rintro j b2 m2 S2 ⟨hj0, hS2⟩
    have hnl := next_len (l.take i) c j
    refine c_seq fun _ hK12 => ?_
    refine c_region ?_
    refine o_step rfl (s_lss rfl rfl) ?_
    refine o_nil ?_
    refine x_then (hK12 _ _ ?_)
    refine c_seq fun _ hK13 => ?_
    refine c_if rfl (fun hj1 => ?_) (fun hj1 => ?_)
    · skip
      have hj : j < (parts (l.take i)).length := by omega
      have hgj := List.getElem?_eq_getElem hj
      refine c_skip ?_
      refine x_then (hK13 _ _ ?_)
      refine c_seq fun _ hK14 => ?_
      refine c_block ?_
      refine c_seq fun _ hK15 => ?_
      refine c_region ?_
      refine o_step rfl (s_idx rfl rfl hss (by omega)) ?_
      refine o_step rfl (s_ldB rfl ((hS.rdk hiA).lds j hgj (by omega)) rfl) ?_
      refine o_alloc (l := Ec 0#256) (by rw [Ec_zero]; rfl) rfl fun b8 => ?_
      refine o_stW rfl rfl upA lnA lnA (by first | exact Ec_one _ | exact flat_one _ _ | exact one_rep rfl | (simp [Value.oneCell']; done)) ?_
      refine o_nil ?_
      refine x_then (hK15 _ _ ?_)
      refine c_seq fun _ hK16 => ?_
      refine c_drawE ([(b8, .cells (Ec ((parts (l.take i))[j])).toArray 54 (0, 0)), (b5, .cells (Ec c).toArray 54 (0, 0))]) (fun i => false) ?_
      refine e_take 0 rfl (by kernel_rfl) (by kernel_rfl) (by kernel_rfl) (by kernel_rfl) (fun _ _ => rfl) rfl hzB (s_ldB rfl (RdPK.cels (.own meA)) lnA) ?_
      refine e_take 1 rfl (by kernel_rfl) (by kernel_rfl) (by kernel_rfl) (by kernel_rfl) (fun _ _ => rfl) rfl hzB (s_ldB rfl (RdPK.cels (.own meA)) lnA) ?_
      refine e_take 3 rfl (by kernel_rfl) (by kernel_rfl) (by kernel_rfl) (by kernel_rfl) (fun _ _ => rfl) rfl hzB (s_ldB rfl (RdPK.cels (.own meA)) lnA) ?_
      refine e_take 4 rfl (by kernel_rfl) (by kernel_rfl) (by kernel_rfl) (by kernel_rfl) (fun _ _ => rfl) rfl hzB (s_ldB rfl (RdPK.cels (.own meA)) lnA) ?_
      refine e_join (ι := Nat × Nat) (fun g => [(29, .agg (Ec (((parts (l.take i))[j]) &&& c)).toArray), (33, .agg (Ec (((parts (l.take i))[j]) &&& ~~~c)).toArray), (32, .agg (Ec (~~~c)).toArray), (9, .pointer (some ⟨g.1, 0, none⟩)), (10, .pointer (some ⟨g.2, 0, none⟩))]) [(2, _), (3, _), (5, _), (6, _), (8, _), (15, _), (16, _), (17, _), (18, _), (19, _), (20, _), (21, _), (22, _), (23, _), (24, _), (25, _), (26, _), (27, _), (28, _), (30, _), (31, _)] (fun g => [(g.1, .cells (Ec 0#256).toArray 54 (0, 0)), (g.2, .cells (Ec 0#256).toArray 54 (0, 0)), (b8, .cells (Ec ((parts (l.take i))[j])).toArray 54 (0, 0))] ++ (S2 ++ (S ++ [(b5, .cells (Ec c).toArray 54 (0, 0))]))) 2 #[true, true, true, true, true, true, true, true, true, false, false] sbA (fun hJ => ?_) ?_
      · skip
        refine e_any3 2 7 8 rfl rfl rfl (by kernel_rfl) ?_ ?_ ?_
        · skip
          refine o_callP (and_fn ((parts (l.take i))[j]) c) rfl rfl rfl (fun _ _ => trivial) (fun v29 hv29 => ?_)
          subst hv29
          refine o_nil ?_
          refine x_oneS hzB ?_
          refine e_any3 5 7 8 rfl rfl rfl (by kernel_rfl) ?_ ?_ ?_
          · skip
            refine o_callP (not_fn c) rfl rfl rfl (fun _ _ => trivial) (fun v32 hv32 => ?_)
            subst hv32
            refine o_nil ?_
            refine x_oneS hzB ?_
            refine e_any3 6 7 8 rfl rfl rfl (by kernel_rfl) ?_ ?_ ?_
            · skip
              refine o_callP (and_fn ((parts (l.take i))[j]) (~~~c)) rfl rfl rfl (fun _ _ => trivial) (fun v33 hv33 => ?_)
              subst hv33
              refine o_nil ?_
              refine x_oneS hzB ?_
              refine e_any2 7 8 rfl rfl (by kernel_rfl) ?_ ?_
              · skip
                refine o_alloc (l := Ec 0#256) (by rw [Ec_zero]; rfl) rfl fun b9 => ?_
                refine o_nil ?_
                refine x_oneS hzB ?_
                refine e_one 8 rfl (by kernel_rfl) ?_
                refine o_alloc (l := Ec 0#256) (by rw [Ec_zero]; rfl) rfl fun b10 => ?_
                refine o_nil ?_
                refine x_oneS hzB ?_
                exact e_lst (by kernel_rfl) (hJ (b9, b10) _ _ sbA sbA hzB)
              · skip
                refine o_alloc (l := Ec 0#256) (by rw [Ec_zero]; rfl) rfl fun b10 => ?_
                refine o_nil ?_
                refine x_oneS hzB ?_
                refine e_one 7 rfl (by kernel_rfl) ?_
                refine o_alloc (l := Ec 0#256) (by rw [Ec_zero]; rfl) rfl fun b9 => ?_
                refine o_nil ?_
                refine x_oneS hzB ?_
                exact e_lst (by kernel_rfl) (hJ (b9, b10) _ _ sbA sbA hzB)
            · skip
              refine o_alloc (l := Ec 0#256) (by rw [Ec_zero]; rfl) rfl fun b9 => ?_
              refine o_nil ?_
              refine x_oneS hzB ?_
              refine e_any2 6 8 rfl rfl (by kernel_rfl) ?_ ?_
              · skip
                refine o_callP (and_fn ((parts (l.take i))[j]) (~~~c)) rfl rfl rfl (fun _ _ => trivial) (fun v33 hv33 => ?_)
                subst hv33
                refine o_nil ?_
                refine x_oneS hzB ?_
                refine e_one 8 rfl (by kernel_rfl) ?_
                refine o_alloc (l := Ec 0#256) (by rw [Ec_zero]; rfl) rfl fun b10 => ?_
                refine o_nil ?_
                refine x_oneS hzB ?_
                exact e_lst (by kernel_rfl) (hJ (b9, b10) _ _ sbA sbA hzB)
              · skip
                refine o_alloc (l := Ec 0#256) (by rw [Ec_zero]; rfl) rfl fun b10 => ?_
                refine o_nil ?_
                refine x_oneS hzB ?_
                refine e_one 6 rfl (by kernel_rfl) ?_
                refine o_callP (and_fn ((parts (l.take i))[j]) (~~~c)) rfl rfl rfl (fun _ _ => trivial) (fun v33 hv33 => ?_)
                subst hv33
                refine o_nil ?_
                refine x_oneS hzB ?_
                exact e_lst (by kernel_rfl) (hJ (b9, b10) _ _ sbA sbA hzB)
            · skip
              refine o_alloc (l := Ec 0#256) (by rw [Ec_zero]; rfl) rfl fun b10 => ?_
              refine o_nil ?_
              refine x_oneS hzB ?_
              refine e_any2 6 7 rfl rfl (by kernel_rfl) ?_ ?_
              · skip
                refine o_callP (and_fn ((parts (l.take i))[j]) (~~~c)) rfl rfl rfl (fun _ _ => trivial) (fun v33 hv33 => ?_)
                subst hv33
                refine o_nil ?_
                refine x_oneS hzB ?_
                refine e_one 7 rfl (by kernel_rfl) ?_
                refine o_alloc (l := Ec 0#256) (by rw [Ec_zero]; rfl) rfl fun b9 => ?_
                refine o_nil ?_
                refine x_oneS hzB ?_
                exact e_lst (by kernel_rfl) (hJ (b9, b10) _ _ sbA sbA hzB)
              · skip
                refine o_alloc (l := Ec 0#256) (by rw [Ec_zero]; rfl) rfl fun b9 => ?_
                refine o_nil ?_
                refine x_oneS hzB ?_
                refine e_one 6 rfl (by kernel_rfl) ?_
                refine o_callP (and_fn ((parts (l.take i))[j]) (~~~c)) rfl rfl rfl (fun _ _ => trivial) (fun v33 hv33 => ?_)
                subst hv33
                refine o_nil ?_
                refine x_oneS hzB ?_
                exact e_lst (by kernel_rfl) (hJ (b9, b10) _ _ sbA sbA hzB)
          · skip
            refine o_alloc (l := Ec 0#256) (by rw [Ec_zero]; rfl) rfl fun b9 => ?_
            refine o_nil ?_
            refine x_oneS hzB ?_
            refine e_any2 5 8 rfl rfl (by kernel_rfl) ?_ ?_
            · skip
              refine o_callP (not_fn c) rfl rfl rfl (fun _ _ => trivial) (fun v32 hv32 => ?_)
              subst hv32
              refine o_nil ?_
              refine x_oneS hzB ?_
              refine e_any2 6 8 rfl rfl (by kernel_rfl) ?_ ?_
              · skip
                refine o_callP (and_fn ((parts (l.take i))[j]) (~~~c)) rfl rfl rfl (fun _ _ => trivial) (fun v33 hv33 => ?_)
                subst hv33
                refine o_nil ?_
                refine x_oneS hzB ?_
                refine e_one 8 rfl (by kernel_rfl) ?_
                refine o_alloc (l := Ec 0#256) (by rw [Ec_zero]; rfl) rfl fun b10 => ?_
                refine o_nil ?_
                refine x_oneS hzB ?_
                exact e_lst (by kernel_rfl) (hJ (b9, b10) _ _ sbA sbA hzB)
              · skip
                refine o_alloc (l := Ec 0#256) (by rw [Ec_zero]; rfl) rfl fun b10 => ?_
                refine o_nil ?_
                refine x_oneS hzB ?_
                refine e_one 6 rfl (by kernel_rfl) ?_
                refine o_callP (and_fn ((parts (l.take i))[j]) (~~~c)) rfl rfl rfl (fun _ _ => trivial) (fun v33 hv33 => ?_)
                subst hv33
                refine o_nil ?_
                refine x_oneS hzB ?_
                exact e_lst (by kernel_rfl) (hJ (b9, b10) _ _ sbA sbA hzB)
            · skip
              refine o_alloc (l := Ec 0#256) (by rw [Ec_zero]; rfl) rfl fun b10 => ?_
              refine o_nil ?_
              refine x_oneS hzB ?_
              refine e_one 5 rfl (by kernel_rfl) ?_
              refine o_callP (not_fn c) rfl rfl rfl (fun _ _ => trivial) (fun v32 hv32 => ?_)
              subst hv32
              refine o_nil ?_
              refine x_oneS hzB ?_
              refine e_one 6 rfl (by kernel_rfl) ?_
              refine o_callP (and_fn ((parts (l.take i))[j]) (~~~c)) rfl rfl rfl (fun _ _ => trivial) (fun v33 hv33 => ?_)
              subst hv33
              refine o_nil ?_
              refine x_oneS hzB ?_
              exact e_lst (by kernel_rfl) (hJ (b9, b10) _ _ sbA sbA hzB)
          · skip
            refine o_alloc (l := Ec 0#256) (by rw [Ec_zero]; rfl) rfl fun b10 => ?_
            refine o_nil ?_
            refine x_oneS hzB ?_
            refine e_any2 5 7 rfl rfl (by kernel_rfl) ?_ ?_
            · skip
              refine o_callP (not_fn c) rfl rfl rfl (fun _ _ => trivial) (fun v32 hv32 => ?_)
              subst hv32
              refine o_nil ?_
              refine x_oneS hzB ?_
              refine e_any2 6 7 rfl rfl (by kernel_rfl) ?_ ?_
              · skip
                refine o_callP (and_fn ((parts (l.take i))[j]) (~~~c)) rfl rfl rfl (fun _ _ => trivial) (fun v33 hv33 => ?_)
                subst hv33
                refine o_nil ?_
                refine x_oneS hzB ?_
                refine e_one 7 rfl (by kernel_rfl) ?_
                refine o_alloc (l := Ec 0#256) (by rw [Ec_zero]; rfl) rfl fun b9 => ?_
                refine o_nil ?_
                refine x_oneS hzB ?_
                exact e_lst (by kernel_rfl) (hJ (b9, b10) _ _ sbA sbA hzB)
              · skip
                refine o_alloc (l := Ec 0#256) (by rw [Ec_zero]; rfl) rfl fun b9 => ?_
                refine o_nil ?_
                refine x_oneS hzB ?_
                refine e_one 6 rfl (by kernel_rfl) ?_
                refine o_callP (and_fn ((parts (l.take i))[j]) (~~~c)) rfl rfl rfl (fun _ _ => trivial) (fun v33 hv33 => ?_)
                subst hv33
                refine o_nil ?_
                refine x_oneS hzB ?_
                exact e_lst (by kernel_rfl) (hJ (b9, b10) _ _ sbA sbA hzB)
            · skip
              refine o_alloc (l := Ec 0#256) (by rw [Ec_zero]; rfl) rfl fun b9 => ?_
              refine o_nil ?_
              refine x_oneS hzB ?_
              refine e_one 5 rfl (by kernel_rfl) ?_
              refine o_callP (not_fn c) rfl rfl rfl (fun _ _ => trivial) (fun v32 hv32 => ?_)
              subst hv32
              refine o_nil ?_
              refine x_oneS hzB ?_
              refine e_one 6 rfl (by kernel_rfl) ?_
              refine o_callP (and_fn ((parts (l.take i))[j]) (~~~c)) rfl rfl rfl (fun _ _ => trivial) (fun v33 hv33 => ?_)
              subst hv33
              refine o_nil ?_
              refine x_oneS hzB ?_
              exact e_lst (by kernel_rfl) (hJ (b9, b10) _ _ sbA sbA hzB)
        · skip
          refine o_alloc (l := Ec 0#256) (by rw [Ec_zero]; rfl) rfl fun b9 => ?_
          refine o_nil ?_
          refine x_oneS hzB ?_
          refine e_any2 2 8 rfl rfl (by kernel_rfl) ?_ ?_
          · skip
            refine o_callP (and_fn ((parts (l.take i))[j]) c) rfl rfl rfl (fun _ _ => trivial) (fun v29 hv29 => ?_)
            subst hv29
            refine o_nil ?_
            refine x_oneS hzB ?_
            refine e_any2 5 8 rfl rfl (by kernel_rfl) ?_ ?_
            · skip
              refine o_callP (not_fn c) rfl rfl rfl (fun _ _ => trivial) (fun v32 hv32 => ?_)
              subst hv32
              refine o_nil ?_
              refine x_oneS hzB ?_
              refine e_any2 6 8 rfl rfl (by kernel_rfl) ?_ ?_
              · skip
                refine o_callP (and_fn ((parts (l.take i))[j]) (~~~c)) rfl rfl rfl (fun _ _ => trivial) (fun v33 hv33 => ?_)
                subst hv33
                refine o_nil ?_
                refine x_oneS hzB ?_
                refine e_one 8 rfl (by kernel_rfl) ?_
                refine o_alloc (l := Ec 0#256) (by rw [Ec_zero]; rfl) rfl fun b10 => ?_
                refine o_nil ?_
                refine x_oneS hzB ?_
                exact e_lst (by kernel_rfl) (hJ (b9, b10) _ _ sbA sbA hzB)
              · skip
                refine o_alloc (l := Ec 0#256) (by rw [Ec_zero]; rfl) rfl fun b10 => ?_
                refine o_nil ?_
                refine x_oneS hzB ?_
                refine e_one 6 rfl (by kernel_rfl) ?_
                refine o_callP (and_fn ((parts (l.take i))[j]) (~~~c)) rfl rfl rfl (fun _ _ => trivial) (fun v33 hv33 => ?_)
                subst hv33
                refine o_nil ?_
                refine x_oneS hzB ?_
                exact e_lst (by kernel_rfl) (hJ (b9, b10) _ _ sbA sbA hzB)
            · skip
              refine o_alloc (l := Ec 0#256) (by rw [Ec_zero]; rfl) rfl fun b10 => ?_
              refine o_nil ?_
              refine x_oneS hzB ?_
              refine e_one 5 rfl (by kernel_rfl) ?_
              refine o_callP (not_fn c) rfl rfl rfl (fun _ _ => trivial) (fun v32 hv32 => ?_)
              subst hv32
              refine o_nil ?_
              refine x_oneS hzB ?_
              refine e_one 6 rfl (by kernel_rfl) ?_
              refine o_callP (and_fn ((parts (l.take i))[j]) (~~~c)) rfl rfl rfl (fun _ _ => trivial) (fun v33 hv33 => ?_)
              subst hv33
              refine o_nil ?_
              refine x_oneS hzB ?_
              exact e_lst (by kernel_rfl) (hJ (b9, b10) _ _ sbA sbA hzB)
          · skip
            refine o_alloc (l := Ec 0#256) (by rw [Ec_zero]; rfl) rfl fun b10 => ?_
            refine o_nil ?_
            refine x_oneS hzB ?_
            refine e_one 2 rfl (by kernel_rfl) ?_
            refine o_callP (and_fn ((parts (l.take i))[j]) c) rfl rfl rfl (fun _ _ => trivial) (fun v29 hv29 => ?_)
            subst hv29
            refine o_nil ?_
            refine x_oneS hzB ?_
            refine e_one 5 rfl (by kernel_rfl) ?_
            refine o_callP (not_fn c) rfl rfl rfl (fun _ _ => trivial) (fun v32 hv32 => ?_)
            subst hv32
            refine o_nil ?_
            refine x_oneS hzB ?_
            refine e_one 6 rfl (by kernel_rfl) ?_
            refine o_callP (and_fn ((parts (l.take i))[j]) (~~~c)) rfl rfl rfl (fun _ _ => trivial) (fun v33 hv33 => ?_)
            subst hv33
            refine o_nil ?_
            refine x_oneS hzB ?_
            exact e_lst (by kernel_rfl) (hJ (b9, b10) _ _ sbA sbA hzB)
        · skip
          refine o_alloc (l := Ec 0#256) (by rw [Ec_zero]; rfl) rfl fun b10 => ?_
          refine o_nil ?_
          refine x_oneS hzB ?_
          refine e_any2 2 7 rfl rfl (by kernel_rfl) ?_ ?_
          · skip
            refine o_callP (and_fn ((parts (l.take i))[j]) c) rfl rfl rfl (fun _ _ => trivial) (fun v29 hv29 => ?_)
            subst hv29
            refine o_nil ?_
            refine x_oneS hzB ?_
            refine e_any2 5 7 rfl rfl (by kernel_rfl) ?_ ?_
            · skip
              refine o_callP (not_fn c) rfl rfl rfl (fun _ _ => trivial) (fun v32 hv32 => ?_)
              subst hv32
              refine o_nil ?_
              refine x_oneS hzB ?_
              refine e_any2 6 7 rfl rfl (by kernel_rfl) ?_ ?_
              · skip
                refine o_callP (and_fn ((parts (l.take i))[j]) (~~~c)) rfl rfl rfl (fun _ _ => trivial) (fun v33 hv33 => ?_)
                subst hv33
                refine o_nil ?_
                refine x_oneS hzB ?_
                refine e_one 7 rfl (by kernel_rfl) ?_
                refine o_alloc (l := Ec 0#256) (by rw [Ec_zero]; rfl) rfl fun b9 => ?_
                refine o_nil ?_
                refine x_oneS hzB ?_
                exact e_lst (by kernel_rfl) (hJ (b9, b10) _ _ sbA sbA hzB)
              · skip
                refine o_alloc (l := Ec 0#256) (by rw [Ec_zero]; rfl) rfl fun b9 => ?_
                refine o_nil ?_
                refine x_oneS hzB ?_
                refine e_one 6 rfl (by kernel_rfl) ?_
                refine o_callP (and_fn ((parts (l.take i))[j]) (~~~c)) rfl rfl rfl (fun _ _ => trivial) (fun v33 hv33 => ?_)
                subst hv33
                refine o_nil ?_
                refine x_oneS hzB ?_
                exact e_lst (by kernel_rfl) (hJ (b9, b10) _ _ sbA sbA hzB)
            · skip
              refine o_alloc (l := Ec 0#256) (by rw [Ec_zero]; rfl) rfl fun b9 => ?_
              refine o_nil ?_
              refine x_oneS hzB ?_
              refine e_one 5 rfl (by kernel_rfl) ?_
              refine o_callP (not_fn c) rfl rfl rfl (fun _ _ => trivial) (fun v32 hv32 => ?_)
              subst hv32
              refine o_nil ?_
              refine x_oneS hzB ?_
              refine e_one 6 rfl (by kernel_rfl) ?_
              refine o_callP (and_fn ((parts (l.take i))[j]) (~~~c)) rfl rfl rfl (fun _ _ => trivial) (fun v33 hv33 => ?_)
              subst hv33
              refine o_nil ?_
              refine x_oneS hzB ?_
              exact e_lst (by kernel_rfl) (hJ (b9, b10) _ _ sbA sbA hzB)
          · skip
            refine o_alloc (l := Ec 0#256) (by rw [Ec_zero]; rfl) rfl fun b9 => ?_
            refine o_nil ?_
            refine x_oneS hzB ?_
            refine e_one 2 rfl (by kernel_rfl) ?_
            refine o_callP (and_fn ((parts (l.take i))[j]) c) rfl rfl rfl (fun _ _ => trivial) (fun v29 hv29 => ?_)
            subst hv29
            refine o_nil ?_
            refine x_oneS hzB ?_
            refine e_one 5 rfl (by kernel_rfl) ?_
            refine o_callP (not_fn c) rfl rfl rfl (fun _ _ => trivial) (fun v32 hv32 => ?_)
            subst hv32
            refine o_nil ?_
            refine x_oneS hzB ?_
            refine e_one 6 rfl (by kernel_rfl) ?_
            refine o_callP (and_fn ((parts (l.take i))[j]) (~~~c)) rfl rfl rfl (fun _ _ => trivial) (fun v33 hv33 => ?_)
            subst hv33
            refine o_nil ?_
            refine x_oneS hzB ?_
            exact e_lst (by kernel_rfl) (hJ (b9, b10) _ _ sbA sbA hzB)
      · rintro ⟨b9, b10⟩
        refine e_one 9 rfl (by kernel_rfl) ?_
        refine o_stW rfl rfl upA lnA lnA (by first | exact Ec_one _ | exact flat_one _ _ | exact one_rep rfl | (simp [Value.oneCell']; done)) ?_
        refine o_nil ?_
        refine x_oneS hzB ?_
        refine e_one 10 rfl (by kernel_rfl) ?_
        refine o_stW rfl rfl upA lnA lnA (by first | exact Ec_one _ | exact flat_one _ _ | exact one_rep rfl | (simp [Value.oneCell']; done)) ?_
        refine o_nil ?_
        refine x_oneS hzB ?_
        refine e_done (by kernel_rfl) ?_
        refine x_then (hK16 _ _ ?_)
        refine c_seq fun _ hK17 => ?_
        refine c_seq fun _ hK18 => ?_
        refine c_region ?_
        refine o_step rfl (s_ldB rfl (RdPK.cels (.own meA)) lnA) ?_
        refine o_step rfl (step_cast (v' := .agg (Ec 0#256).toArray) (s_build0 rfl) (by rw [Ec_zero]; rfl)) ?_
        by_cases h1 : (((parts (l.take i))[j]) &&& c) = 0#256
        · skip
          refine o_step rfl (step_cast (v' := .bool true) (s_eql_cl rfl rfl) (congrArg Value.bool (decide_eq_true h1))) ?_
          refine o_step rfl (s_move rfl) ?_
          refine o_no rfl rfl rfl rfl ?_
          refine o_no rfl rfl rfl rfl ?_
          refine o_no rfl rfl rfl rfl ?_
          refine o_step rfl (s_pick_t rfl rfl) ?_
          refine o_nil ?_
          refine x_then (hK18 _ _ ?_)
          refine c_true rfl ?_
          refine c_seq fun _ hK19 => ?_
          refine c_region ?_
          refine o_step rfl (s_move rfl) ?_
          refine o_step rfl (s_ldB rfl (RdPK.cels (.own meA)) lnA) ?_
          refine o_bs (E := Ec) (xs := [((parts (l.take i))[j])]) (vs := [_]) rfl rfl rfl rfl rfl (by decide) (by decide) fun b44 S44 hS44 => ?_
          refine o_app hS2 (hS44.rdk hiA) rfl rfl rfl rfl (by show ((refine ((parts (l.take i)).take j) c).length + 1) * 32 ≤ _; omega) (by show (refine ((parts (l.take i)).take j) c).length + 1 ≤ _; omega) rfl pkA fun a45 c45 S45 hS45 => ?_
          refine o_step rfl (s_assign rfl) ?_
          refine o_nil ?_
          refine x_then (hK19 _ _ ?_)
          refine c_exit ?_
          refine x_then_exit ?_
          refine x_block_exit ?_
          refine x_then (hK14 _ _ ?_)
          refine c_region ?_
          refine o_step rfl (s_add rfl rfl (by omega)) ?_
          refine o_step rfl (s_move rfl) ?_
          refine o_nil ?_
          have hst := refine_step (parts (l.take i)) c hj
          have hr : ref1 c ((parts (l.take i))[j]) = [((parts (l.take i))[j])] := by simp [ref1, h1]
          exact x_then (x_inv (j + 1, _, _, S45) ⟨by omega, by rw [hst, hr]; exact hS45⟩ (by first | omega | (dsimp only; omega)) (by refine Sub.cons rfl (Sub.cons' rfl (by rw [hst, hr]) sbA)) hzB)
        · skip
          refine o_step rfl (step_cast (v' := .bool false) (s_eql_cl rfl rfl) (congrArg Value.bool (decide_eq_false h1))) ?_
          refine o_step rfl (s_move rfl) ?_
          refine o_yes rfl rfl ?_
          refine o_step rfl (s_ldB rfl (RdPK.cels (.own meA)) lnA) ?_
          refine o_yes rfl rfl ?_
          refine o_step rfl (step_cast (v' := .agg (Ec 0#256).toArray) (s_build0 rfl) (by rw [Ec_zero]; rfl)) ?_
          refine o_yes rfl rfl ?_
          by_cases h2 : (((parts (l.take i))[j]) &&& ~~~c) = 0#256
          · skip
            refine o_step rfl (step_cast (v' := .bool true) (s_eql_cl rfl rfl) (congrArg Value.bool (decide_eq_true h2))) ?_
            refine o_step rfl (s_pick_f rfl rfl) ?_
            refine o_nil ?_
            refine x_then (hK18 _ _ ?_)
            refine c_true rfl ?_
            refine c_seq fun _ hK20 => ?_
            refine c_region ?_
            refine o_step rfl (s_move rfl) ?_
            refine o_step rfl (s_ldB rfl (RdPK.cels (.own meA)) lnA) ?_
            refine o_bs (E := Ec) (xs := [((parts (l.take i))[j])]) (vs := [_]) rfl rfl rfl rfl rfl (by decide) (by decide) fun b44 S44 hS44 => ?_
            refine o_app hS2 (hS44.rdk hiA) rfl rfl rfl rfl (by show ((refine ((parts (l.take i)).take j) c).length + 1) * 32 ≤ _; omega) (by show (refine ((parts (l.take i)).take j) c).length + 1 ≤ _; omega) rfl pkA fun a45 c45 S45 hS45 => ?_
            refine o_step rfl (s_assign rfl) ?_
            refine o_nil ?_
            refine x_then (hK20 _ _ ?_)
            refine c_exit ?_
            refine x_then_exit ?_
            refine x_block_exit ?_
            refine x_then (hK14 _ _ ?_)
            refine c_region ?_
            refine o_step rfl (s_add rfl rfl (by omega)) ?_
            refine o_step rfl (s_move rfl) ?_
            refine o_nil ?_
            have hst := refine_step (parts (l.take i)) c hj
            have hr : ref1 c ((parts (l.take i))[j]) = [((parts (l.take i))[j])] := by simp [ref1, h2]
            exact x_then (x_inv (j + 1, _, _, S45) ⟨by omega, by rw [hst, hr]; exact hS45⟩ (by first | omega | (dsimp only; omega)) (by refine Sub.cons rfl (Sub.cons' rfl (by rw [hst, hr]) sbA)) hzB)
          · skip
            refine o_step rfl (step_cast (v' := .bool false) (s_eql_cl rfl rfl) (congrArg Value.bool (decide_eq_false h2))) ?_
            refine o_step rfl (s_pick_f rfl rfl) ?_
            refine o_nil ?_
            refine x_then (hK18 _ _ ?_)
            refine c_false rfl ?_
            refine c_skip ?_
            refine x_then (hK17 _ _ ?_)
            refine c_region ?_
            refine o_step rfl (s_move rfl) ?_
            refine o_step rfl (s_ldB rfl (RdPK.cels (.own meA)) lnA) ?_
            refine o_step rfl (s_ldB rfl (RdPK.cels (.own meA)) lnA) ?_
            refine o_bs (E := Ec) (xs := [((parts (l.take i))[j]) &&& c, ((parts (l.take i))[j]) &&& ~~~c]) (vs := [_, _]) rfl rfl rfl rfl rfl (by decide) (by decide) fun b49 S49 hS49 => ?_
            refine o_app hS2 (hS49.rdk hiA) rfl rfl rfl rfl (by show ((refine ((parts (l.take i)).take j) c).length + 2) * 32 ≤ _; omega) (by show (refine ((parts (l.take i)).take j) c).length + 2 ≤ _; omega) rfl pkA fun a50 c50 S50 hS50 => ?_
            refine o_step rfl (s_assign rfl) ?_
            refine o_nil ?_
            refine x_block ?_
            refine x_then (hK14 _ _ ?_)
            refine c_region ?_
            refine o_step rfl (s_add rfl rfl (by omega)) ?_
            refine o_step rfl (s_move rfl) ?_
            refine o_nil ?_
            have hst := refine_step (parts (l.take i)) c hj
            have hr : ref1 c ((parts (l.take i))[j]) = [((parts (l.take i))[j]) &&& c, ((parts (l.take i))[j]) &&& ~~~c] := by simp [ref1, h1, h2]
            exact x_then (x_inv (j + 1, _, _, S50) ⟨by omega, by rw [hst, hr]; exact hS50⟩ (by first | omega | (dsimp only; omega)) (by refine Sub.cons rfl (Sub.cons' rfl (by rw [hst, hr]) sbA)) hzB)
    · skip
      refine c_exit ?_
      refine x_then_exit ?_
      refine x_then_exit ?_
      refine x_block_exit ?_
      refine x_then (hK10 _ _ ?_)
      refine c_region ?_
      refine o_step rfl (s_move rfl) ?_
      refine o_step rfl (s_assign rfl) ?_
      refine o_nil ?_
      refine x_block ?_
      refine x_then (hK7 _ _ ?_)
      refine c_region ?_
      refine o_step rfl (s_add rfl rfl (by omega)) ?_
      refine o_step rfl (s_move rfl) ?_
      refine o_nil ?_
      have hall : (parts (l.take i)).take j = (parts (l.take i)) := List.take_of_length_le (by omega)
      have hps := parts_step l hlt
      rw [← hcl] at hps
      exact x_then (x_inv (i + 1, b2, m2, S2) ⟨by omega, by rw [hps]; rw [hall] at hS2; exact hS2⟩ (by first | omega | (dsimp only; omega)) (by refine Sub.cons rfl (Sub.cons' rfl (by rw [hps, hall]) sbA)) (by exact HSub.of_pick pkA))
  · skip
    have hall : l.take i = l := List.take_of_length_le (by omega)
    rw [hall] at hS hss hpl
    refine c_exit ?_
    refine x_then_exit ?_
    refine x_then_exit ?_
    refine x_block_exit ?_
    refine x_then (hK3 _ _ ?_)
    refine c_seq fun _ hK21 => ?_
    refine c_seq fun _ hK22 => ?_
    refine c_region ?_
    refine o_step rfl (s_move rfl) ?_
    refine o_step rfl (s_len rfl) ?_
    refine o_step rfl (s_move rfl) ?_
    refine o_nil ?_
    refine x_then (hK22 _ _ ?_)
    refine c_block ?_
    rw [hall]
    refine c_loop2 (fun (i2 : Nat) (S3 : Hp) => i2 ≤ (parts l).length ∧ OwnS Ec 4 54 (.slice b (parts l).length m) (sortTo (parts l) i2) S3) (fun (i2 : Nat) (S3 : Hp) => [(56, .int .i64 i2)]) [(2, _), (3, _), (55, _)] (fun (i2 : Nat) (S3 : Hp) => S3) (fun (i2 : Nat) (S3 : Hp) => (parts l).length - i2) 0 S ⟨by omega, hS⟩ sbA sbA (by exact HSub.of_pick pkA) ?_
    rintro i2 S3 ⟨hi2, hS3⟩
    refine c_seq fun _ hK23 => ?_
    refine c_region ?_
    refine o_step rfl (s_lss rfl rfl) ?_
    refine o_nil ?_
    refine x_then (hK23 _ _ ?_)
    refine c_seq fun _ hK24 => ?_
    refine c_if rfl (fun hlt2 => ?_) (fun hlt2 => ?_)
    · skip
      refine c_skip ?_
      refine x_then (hK24 _ _ ?_)
      refine c_seq fun _ hK25 => ?_
      refine c_block ?_
      refine c_seq fun _ hK26 => ?_
      refine c_region ?_
      refine o_step rfl (s_move rfl) ?_
      refine o_step rfl (s_assign rfl) ?_
      refine o_nil ?_
      refine x_then (hK26 _ _ ?_)
      refine c_seq fun _ hK27 => ?_
      refine c_region ?_
      refine o_step rfl (s_move rfl) ?_
      refine o_step rfl (s_assign rfl) ?_
      refine o_nil ?_
      refine x_then (hK27 _ _ ?_)
      refine c_block ?_
      refine c_loop3 (fun (k : Nat) (M : List Cl) (S4 : Hp) => k ≤ i2 ∧ M.length = (parts l).length ∧ sink M k = sink (sortTo (parts l) i2) i2 ∧ OwnS Ec 4 54 (.slice b (parts l).length m) M S4) (fun (k : Nat) (M : List Cl) (S4 : Hp) => [(12, .int .i64 k)]) [(2, _), (3, _), (11, _), (55, _), (56, _), (57, _), (58, _), (59, _)] (fun (k : Nat) (M : List Cl) (S4 : Hp) => S4) (fun (k : Nat) (M : List Cl) (S4 : Hp) => k) i2 (sortTo (parts l) i2) S3 ⟨Nat.le_refl _, sortTo_len _ _, rfl, hS3⟩ sbA sbA (by exact HSub.of_pick pkA) ?_
      rintro k M S4 ⟨hk, hML, hsk, hS4⟩
      refine c_seq fun _ hK28 => ?_
      refine c_seq fun _ hK29 => ?_
      refine c_quiet (by kernel_rfl) ?_
      refine .op rfl (s_move rfl) ?_
      by_cases hk0 : 0 < k
      · skip
        refine .op rfl (step_cast (v' := .bool true) (s_gtr rfl rfl) (congrArg Value.bool (decide_eq_true (by omega)))) ?_
        refine .op rfl (s_move rfl) ?_
        obtain ⟨q, rfl⟩ : ∃ q, k = q + 1 := ⟨k - 1, by omega⟩
        have hg1 := getD_get (l := M) (k := q + 1) (by omega)
        have hg0 := getD_get (l := M) (k := q) (by omega)
        refine .yes rfl rfl rfl (s_move rfl) ?_
        refine .yes rfl rfl rfl (s_move rfl) ?_
        refine .yes rfl rfl rfl (s_idx rfl rfl hss (by omega)) ?_
        refine .yes rfl rfl rfl (s_ldB rfl ((hS4.rdk hiA).lds (q + 1) hg1 (by omega)) rfl) ?_
        refine .call (fun _ fr => by rw [wanted_of fr rfl rfl rfl]; rfl) rfl rfl rfl (least_fn (M.getD (q + 1) 0)) (fun w st => tb_of hw.2 st HSub.nil) ?_
        refine .yes rfl rfl rfl (s_move rfl) ?_
        refine .yes rfl rfl rfl (s_move rfl) ?_
        refine .yes rfl rfl rfl (step_cast (v' := .int .i64 ((q : Nat) : Int)) (s_sub rfl rfl (by omega)) (congrArg _ (by omega))) ?_
        refine .yes rfl rfl rfl (s_idx rfl rfl hss (by omega)) ?_
        refine .yes rfl rfl rfl (s_ldB rfl ((hS4.rdk hiA).lds q hg0 (by omega)) rfl) ?_
        refine .call (fun _ fr => by rw [wanted_of fr rfl rfl rfl]; rfl) rfl rfl rfl (least_fn (M.getD q 0)) (fun w st => tb_of hw.2 st HSub.nil) ?_
        by_cases hles : least (M.getD (q + 1) 0) < least (M.getD q 0)
        · skip
          refine .yes rfl rfl rfl (step_cast (v' := .bool true) (s_lss rfl rfl) (congrArg Value.bool (decide_eq_true (by omega)))) ?_
          refine .op rfl (s_pick_t rfl rfl) ?_
          refine .nil ?_
          refine x_then (hK29 _ _ ?_)
          refine c_true rfl ?_
          refine c_skip ?_
          refine x_then (hK28 _ _ ?_)
          refine c_seq fun _ hK30 => ?_
          refine c_block ?_
          refine c_drawE (S4) (fun i => Nat.beq i 15 || Nat.beq i 16 || Nat.beq i 17) ?_
          refine e_pure 0 rfl (by kernel_rfl) (by kernel_rfl) (by kernel_rfl) rfl (s_move rfl) ?_
          refine e_pure 1 rfl (by kernel_rfl) (by kernel_rfl) (by kernel_rfl) rfl (s_move rfl) ?_
          refine e_pure 2 rfl (by kernel_rfl) (by kernel_rfl) (by kernel_rfl) rfl (s_move rfl) ?_
          refine e_pure 3 rfl (by kernel_rfl) (by kernel_rfl) (by kernel_rfl) rfl (s_move rfl) ?_
          refine e_pure 4 rfl (by kernel_rfl) (by kernel_rfl) (by kernel_rfl) rfl (step_cast (v' := .int .i64 ((q : Nat) : Int)) (s_sub rfl rfl (by omega)) (congrArg _ (by omega))) ?_
          refine e_pure 5 rfl (by kernel_rfl) (by kernel_rfl) (by kernel_rfl) rfl (s_move rfl) ?_
          refine e_pure 6 rfl (by kernel_rfl) (by kernel_rfl) (by kernel_rfl) rfl (s_move rfl) ?_
          refine e_pure 7 rfl (by kernel_rfl) (by kernel_rfl) (by kernel_rfl) rfl (step_cast (v' := .int .i64 ((q : Nat) : Int)) (s_sub rfl rfl (by omega)) (congrArg _ (by omega))) ?_
          refine e_pure 8 rfl (by kernel_rfl) (by kernel_rfl) (by kernel_rfl) rfl (s_idx rfl rfl hss (by omega)) ?_
          refine e_pure 10 rfl (by kernel_rfl) (by kernel_rfl) (by kernel_rfl) rfl (s_move rfl) ?_
          refine e_pure 11 rfl (by kernel_rfl) (by kernel_rfl) (by kernel_rfl) rfl (s_move rfl) ?_
          refine e_pure 12 rfl (by kernel_rfl) (by kernel_rfl) (by kernel_rfl) rfl (s_idx rfl rfl hss (by omega)) ?_
          refine e_take 9 rfl (by kernel_rfl) (by kernel_rfl) (by kernel_rfl) (by kernel_rfl) (fun _ _ => rfl) rfl hzB (s_ldB rfl ((hS4.rdk hiA).lds q hg0 (by omega)) rfl) ?_
          refine e_take 13 rfl (by kernel_rfl) (by kernel_rfl) (by kernel_rfl) (by kernel_rfl) (fun _ _ => rfl) rfl hzB (s_ldB rfl ((hS4.rdk hiA).lds (q + 1) hg1 (by omega)) rfl) ?_
          refine e_one 14 rfl (by kernel_rfl) ?_
          refine o_step rfl (s_idx rfl rfl hss (by omega)) ?_
          refine o_nil ?_
          refine x_oneS hzB ?_
          refine e_one 15 rfl (by kernel_rfl) ?_
          refine o_stSE (q + 1) (M.getD q 0) hS4 pkA rfl rfl (by first | (simp; omega) | omega) (by omega) fun S9 hS9 => ?_
          refine o_nil ?_
          refine x_oneL rfl ?_
          refine e_one 16 rfl (by kernel_rfl) ?_
          refine o_step rfl (s_idx rfl rfl hss (by omega)) ?_
          refine o_nil ?_
          refine x_oneL rfl ?_
          refine e_one 17 rfl (by kernel_rfl) ?_
          refine o_stSE (q) (M.getD (q + 1) 0) hS9 pkA rfl rfl (by first | (simp; omega) | omega) (by omega) fun S10 hS10 => ?_
          refine o_nil ?_
          refine x_oneL rfl ?_
          refine e_done (by kernel_rfl) ?_
          refine x_block ?_
          refine x_then (hK30 _ _ ?_)
          refine c_region ?_
          refine o_step rfl (s_move rfl) ?_
          refine o_step rfl (step_cast (v' := .int .i64 ((q : Nat) : Int)) (s_sub rfl rfl (by omega)) (congrArg _ (by omega))) ?_
          refine o_step rfl (s_assign rfl) ?_
          refine o_nil ?_
          exact x_then (x_inv (q, swap M q, S10) ⟨by omega, by rw [swap_len]; exact hML, by rw [← hsk]; exact (sink_yes hles).symm, hS10⟩ (by first | omega | (dsimp only; omega)) sbA (by exact HSub.of_pick pkA))
        · skip
          refine .yes rfl rfl rfl (step_cast (v' := .bool false) (s_lss rfl rfl) (congrArg Value.bool (decide_eq_false (by omega)))) ?_
          refine .op rfl (s_pick_t rfl rfl) ?_
          refine .nil ?_
          refine x_then (hK29 _ _ ?_)
          refine c_false rfl ?_
          refine c_exit ?_
          refine x_then_exit ?_
          refine x_then_exit ?_
          refine x_block_exit ?_
          refine x_block ?_
          refine x_then (hK25 _ _ ?_)
          refine c_region ?_
          refine o_step rfl (s_add rfl rfl (by omega)) ?_
          refine o_step rfl (s_move rfl) ?_
          refine o_nil ?_
          exact x_then (x_inv (i2 + 1, S4) ⟨by omega, by show OwnS Ec 4 54 (.slice b (parts l).length m) (sortTo (parts l) (i2 + 1)) S4; unfold sortTo; rw [← hsk, sink_no hles]; exact hS4⟩ (by first | omega | (dsimp only; omega)) sbA hzB)
      · skip
        refine .op rfl (step_cast (v' := .bool false) (s_gtr rfl rfl) (congrArg Value.bool (decide_eq_false (by omega)))) ?_
        refine .op rfl (s_move rfl) ?_
        refine .no rfl rfl rfl rfl ?_
        refine .no rfl rfl rfl rfl ?_
        refine .no rfl rfl rfl rfl ?_
        refine .no rfl rfl rfl rfl ?_
        refine .no rfl rfl rfl rfl ?_
        refine .no rfl rfl rfl rfl ?_
        refine .no rfl rfl rfl rfl ?_
        refine .no rfl rfl rfl rfl ?_
        refine .no rfl rfl rfl rfl ?_
        refine .no rfl rfl rfl rfl ?_
        refine .no rfl rfl rfl rfl ?_
        refine .no rfl rfl rfl rfl ?_
        refine .op rfl (s_pick_f rfl rfl) ?_
        refine .nil ?_
        refine x_then (hK29 _ _ ?_)
        refine c_false rfl ?_
        refine c_exit ?_
        refine x_then_exit ?_
        refine x_then_exit ?_
        refine x_block_exit ?_
        refine x_block ?_
        refine x_then (hK25 _ _ ?_)
        refine c_region ?_
        refine o_step rfl (s_add rfl rfl (by omega)) ?_
        refine o_step rfl (s_move rfl) ?_
        refine o_nil ?_
        obtain rfl : k = 0 := by omega
        exact x_then (x_inv (i2 + 1, S4) ⟨by omega, by show OwnS Ec 4 54 (.slice b (parts l).length m) (sortTo (parts l) (i2 + 1)) S4; unfold sortTo; rw [← hsk]; exact hS4⟩ (by first | omega | (dsimp only; omega)) sbA hzB)
    · skip
      obtain rfl : i2 = (parts l).length := by omega
      refine c_exit ?_
      refine x_then_exit ?_
      refine x_then_exit ?_
      refine x_block_exit ?_
      refine x_then (hK21 _ _ ?_)
      refine c_seq fun _ hK31 => ?_
      refine c_region ?_
      refine o_step rfl (s_move rfl) ?_
      refine o_step rfl (s_assign rfl) ?_
      refine o_nil ?_
      refine x_then (hK31 _ _ ?_)
      refine c_ret ?_
      refine ?_
      exact x_ret rfl (.tmp rfl (.nil)) (⟨b, m, by rw [atoms_length]; rfl, by rw [atoms_length]; exact hS3⟩)
end Go.Proofs.YtmompllplidphaaDoor
