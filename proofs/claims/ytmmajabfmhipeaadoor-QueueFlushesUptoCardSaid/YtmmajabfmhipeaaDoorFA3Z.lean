/- Flush, where out reads too. Conditions: none. -/
import Derived.Test.YtmmajabfmhipeaaDoorFM18Z
import Derived.Test.YtmmajabfmhipeaaDoorFW30
import Derived.Test.YtmmajabfmhipeaaDoorFM14Z
import Derived.Test.YtmmajabfmhipeaaDoorHlB
import Derived.Test.YtmmajabfmhipeaaDoorFP1
namespace Go.Proofs.YtmmajabfmhipeaaDoor
open Go Go.HL Go.Proofs Go.Tab
theorem qflushL_fn (L : List (Sl UInt8)) {σ : Type} (rd : σ → ByteArray → List UInt8 × σ) (out : σ → List UInt8 → Int × σ) (okR : σ → ByteArray → Prop) (okO : σ → List UInt8 → Prop) (HS : σ → Hp → Prop) (fR fO : FuncId) (us cs us2 cs2 : List Value)
    (hR : ∀ s S n, HS s S → okR s n → HL.Fn Tryd.prog fR (us ++ [.string n] ++ cs) (OldL L S) S (fun v S' => ∃ a c b, v = .slice a b.length c ∧ RdS Eb (.slice a b.length c) b S' ∧ (b = (rd s n).1 ∧ HS (rd s n).2 S')))
    (hO : ∀ s S b Sb a c, HS s S → OwnS Eb 1 5 (.slice a b.length c) b Sb → okO s b → HL.Fn Tryd.prog fO (us2 ++ [.slice a b.length c] ++ cs2) (OldL L (S ++ Sb)) (S ++ Sb) (fun v S' => v = .int .i64 (out s b).1 ∧ HS (out s b).2 S'))
    (bq : Nat) (qa : Option Addr) (qc : Nat) (ql : List IV) (So Si Sx : Hp) (hq : OwnS Eiv 1 135 (.slice qa ql.length qc) ql So) (l : List QI) (hl : Items ql l Si) (s0 : σ) (h0 : HS s0 ((bq, .cells [.bool true, .slice none 0 0].toArray 109 (0, 0)) :: Sx)) (hf : fitsQ rd out okR okO l s0) : HL.Fn Tryd.prog 48 [.pointer (some ⟨bq, 0, none⟩), .func (.func fR) us.toArray cs.toArray, .func (.func fO) us2.toArray cs2.toArray] (OldL L ((bq, .cells [.bool true, .slice qa ql.length qc].toArray 109 (0, 0)) :: (So ++ (Si ++ Sx)))) ((bq, .cells [.bool true, .slice qa ql.length qc].toArray 109 (0, 0)) :: (So ++ (Si ++ Sx))) (fun v S' => v = .int .i64 (flushQ rd out l s0).1 ∧ HS (flushQ rd out l s0).2 S') := by
  refine fn_of Tryd.func48 rfl rfl rfl fun w0 hw => ?_
  have hsq := hq.sl
  have hbq := hsq.le
  refine c_seq fun _ hK1 => ?_
  refine c_region ?_
  refine o_step rfl (s_assign rfl) ?_
  refine o_nil ?_
  refine x_then (hK1 _ _ ?_)
  refine c_seq fun _ hK2 => ?_
  refine c_seq fun _ hK3 => ?_
  refine c_region ?_
  refine o_step rfl (s_move rfl) ?_
  refine o_step rfl (step_cast (v' := .bool false) (s_eql_nilp rfl rfl) rfl) ?_
  refine o_step rfl (s_move rfl) ?_
  refine o_yes rfl rfl ?_
  refine o_step rfl (s_move rfl) ?_
  refine o_yes rfl rfl ?_
  refine o_step rfl (s_nil rfl) ?_
  refine o_yes rfl rfl ?_
  refine o_step rfl (s_field rfl rfl (by decide)) ?_
  refine o_yes rfl rfl ?_
  refine o_step rfl (s_ld rfl (.own meA rfl)) ?_
  refine o_yes rfl rfl ?_
  refine o_step rfl (s_not rfl) ?_
  refine o_step rfl (s_pick_f rfl rfl) ?_
  refine o_nil ?_
  refine x_then (hK3 _ _ ?_)
  refine c_false rfl ?_
  refine c_skip ?_
  refine x_then (hK2 _ _ ?_)
  refine c_seq fun _ hK4 => ?_
  refine c_region ?_
  refine o_step rfl (s_move rfl) ?_
  refine o_step rfl (s_nil rfl) ?_
  refine o_step rfl (s_field rfl rfl (by decide)) ?_
  refine o_step rfl (s_ld rfl (.own meA rfl)) ?_
  refine o_step rfl (s_assign rfl) ?_
  refine o_nil ?_
  refine x_then (hK4 _ _ ?_)
  refine c_seq fun _ hK5 => ?_
  refine c_region ?_
  refine o_step rfl (s_move rfl) ?_
  refine o_step rfl (s_nil rfl) ?_
  refine o_step rfl (s_field rfl rfl (by decide)) ?_
  refine o_store rfl rfl rfl upA (by first | decide | omega | (simp; done) | (simp; omega)) rfl ?_
  refine o_nil ?_
  refine x_then (hK5 _ _ ?_)
  refine c_seq fun _ hK6 => ?_
  refine c_seq fun _ hK7 => ?_
  refine c_region ?_
  refine o_step rfl (s_move rfl) ?_
  refine o_step rfl (s_len rfl) ?_
  refine o_step rfl (s_move rfl) ?_
  refine o_nil ?_
  refine x_then (hK7 _ _ ?_)
  refine c_block ?_
  -- not carried: 6
  refine c_loop3 (fun (j : Nat) (s : σ) (S : Hp) => j ≤ ql.length ∧ HS s S ∧ fitsQ rd out okR okO (l.drop j) s ∧ flushQ rd out l s0 = flushQ rd out (l.drop j) s) (fun (j : Nat) (s : σ) (S : Hp) => [(32, .int .i64 j)]) [(1, _), (2, _), (30, _), (31, _)] (fun (j : Nat) (s : σ) (S : Hp) => So ++ (Si ++ S)) (fun (j : Nat) (s : σ) (S : Hp) => ql.length - j) 0 s0 _ ⟨by omega, h0, hf, rfl⟩ sbA sbA hzB ?_
  rintro j s S ⟨hj, hH, hft, hfq⟩
  refine c_seq fun _ hK8 => ?_
  refine c_region ?_
  refine o_step rfl (s_lss rfl rfl) ?_
  refine o_nil ?_
  refine x_then (hK8 _ _ ?_)
  refine c_seq fun _ hK9 => ?_
  refine c_if rfl (fun hlt => ?_) (fun hlt => ?_)
  ·
   have hcase := hl.at (j := j) (by omega)
   rcases hcase with ⟨x, b, hx, hbx, hrx, hdr⟩ | ⟨n, hx, hdr⟩
   ·
    subst hbx
    refine c_skip ?_
    refine x_then (hK9 _ _ ?_)
    refine c_seq fun _ hK10 => ?_
    refine c_block ?_
    refine c_seq fun _ hK11 => ?_
    refine c_region ?_
    refine o_step rfl (s_idx rfl rfl (by assumption) (by omega)) ?_
    refine o_step rfl (step_cast (v' := .iface 141 x.v) (s_ld rfl ((hq.rdk hiA).ld j 0 (iv0_get (by omega)) rfl (by decide) (by omega))) (by rw [hx])) ?_
    refine o_step rfl (s_assign rfl) ?_
    refine o_nil ?_
    refine x_then (hK11 _ _ ?_)
    refine c_seq fun _ hK12 => ?_
    refine c_region ?_
    refine o_step rfl (s_move rfl) ?_
    refine o_step rfl (s_move rfl) ?_
    refine o_invoke (saysText_fn x.a x.c x.xs _ (fits_text hdr rfl hft).1) rfl rfl rfl (by exact .nil) (fun w st => (hrx.rdk hiA).out w st) (fun v38 S38 ⟨a38, c38, hv38, hS38⟩ => ?_)
    subst hv38
    refine o_step rfl (s_assign rfl) ?_
    refine o_nil ?_
    refine x_then (hK12 _ _ ?_)
    refine c_seq fun _ hK13 => ?_
    refine c_seq fun _ hK14 => ?_
    refine c_region ?_
    refine o_step rfl (s_move rfl) ?_
    refine o_step rfl (s_tassert_f ta141 rfl) ?_
    refine o_step rfl (s_move rfl) ?_
    refine o_step rfl (s_extract rfl rfl) ?_
    refine o_step rfl (s_extract rfl rfl) ?_
    refine o_step rfl (s_assign rfl) ?_
    refine o_step rfl (s_assign rfl) ?_
    refine o_nil ?_
    refine x_then (hK14 _ _ ?_)
    refine c_seq fun _ hK15 => ?_
    refine c_region ?_
    refine o_step rfl (s_move rfl) ?_
    refine o_step rfl (s_move rfl) ?_
    refine o_no rfl rfl rfl rfl ?_
    refine o_no rfl rfl rfl rfl ?_
    refine o_no rfl rfl rfl rfl ?_
    refine o_step rfl (s_pick_f rfl rfl) ?_
    refine o_nil ?_
    refine x_then (hK15 _ _ ?_)
    refine c_false rfl ?_
    refine c_skip ?_
    refine x_then (hK13 _ _ ?_)
    refine c_seq fun _ hK16 => ?_
    refine c_region ?_
    refine o_step rfl (s_move rfl) ?_
    refine o_step rfl (s_move rfl) ?_
    refine o_callC (us := us2) (vs := [_]) (cs := cs2) (hO s S (x.xs ++ [10]) S38 a38 c38 hH hS38 (fits_text hdr rfl hft).2.1) rfl rfl rfl ((Pick.takeA pkA pkA)) (fun w st => OldL.st hw st (HIn.app2 hiA hiA)) (fun v52 S52 ⟨hv52, hS52⟩ => ?_)
    subst hv52
    refine o_step rfl (s_assign rfl) ?_
    refine o_nil ?_
    refine x_then (hK16 _ _ ?_)
    refine c_seq fun _ hK17 => ?_
    refine c_region ?_
    refine o_step rfl (s_move rfl) ?_
    refine o_step rfl (s_neq rfl rfl) ?_
    refine o_nil ?_
    refine x_then (hK17 _ _ ?_)
    refine c_if rfl (fun hne => ?_) (fun hne => ?_)
    ·
     refine c_seq fun _ hK18 => ?_
     refine c_region ?_
     refine o_step rfl (s_move rfl) ?_
     refine o_step rfl (s_assign rfl) ?_
     refine o_nil ?_
     refine x_then (hK18 _ _ ?_)
     refine c_ret ?_
     refine x_block_ret (x_then_ret (x_then_ret (x_block_ret (x_then_ret (?_)))))
     refine x_sub (Sub.refl _) (H' := S52) hzB ?_
     exact x_ret rfl (.tmp rfl (.nil)) (⟨by rw [hfq, hdr, flush_text, if_pos hne]; rfl, by rw [hfq, hdr, flush_text, if_pos hne]; exact hS52⟩)
    ·
     refine c_skip ?_
     refine x_block ?_
     refine x_then (hK10 _ _ ?_)
     refine c_region ?_
     refine o_step rfl (s_add rfl rfl (by omega)) ?_
     refine o_step rfl (s_move rfl) ?_
     refine o_nil ?_
     exact x_then (x_inv (j + 1, _, _) ⟨by omega, hS52, (fits_text hdr rfl hft).2.2 (Decidable.not_not.1 hne), by rw [hfq, hdr, flush_text, if_neg hne]⟩ (by first | omega | (dsimp only; omega)) sbA hzB)
   ·
    refine c_skip ?_
    refine x_then (hK9 _ _ ?_)
    refine c_seq fun _ hK19 => ?_
    refine c_block ?_
    refine c_seq fun _ hK20 => ?_
    refine c_region ?_
    refine o_step rfl (s_idx rfl rfl (by assumption) (by omega)) ?_
    refine o_step rfl (step_cast (v' := .iface 133 (.string n)) (s_ld rfl ((hq.rdk hiA).ld j 0 (iv0_get (by omega)) rfl (by decide) (by omega))) (by rw [hx])) ?_
    refine o_step rfl (s_assign rfl) ?_
    refine o_nil ?_
    refine x_then (hK20 _ _ ?_)
    refine c_seq fun _ hK21 => ?_
    refine c_region ?_
    refine o_step rfl (s_move rfl) ?_
    refine o_step rfl (s_move rfl) ?_
    refine o_invoke (saysFileL_fn fR us cs n S L _ (hR s S n hH (fits_fileR hdr hft))) rfl rfl rfl (pkA) (fun w st => OldL.st hw st hiA) (fun v38 S38 ⟨a38, c38, b38, Sb38, S2, hv38, hS38, hown, hb38, hH2⟩ => ?_)
    subst hv38
    subst hS38
    subst hb38
    refine o_sk (H' := Sb38 ++ (S2 ++ (So ++ Si))) (HSub.of_perm (by simp)) ?_
    refine o_step rfl (s_assign rfl) ?_
    refine o_nil ?_
    refine x_then (hK21 _ _ ?_)
    refine c_seq fun _ hK22 => ?_
    refine c_seq fun _ hK23 => ?_
    refine c_region ?_
    refine o_step rfl (s_move rfl) ?_
    refine o_step rfl (s_tassert_t ta133 rfl) ?_
    refine o_step rfl (s_move rfl) ?_
    refine o_step rfl (s_extract rfl rfl) ?_
    refine o_step rfl (s_extract rfl rfl) ?_
    refine o_step rfl (s_assign rfl) ?_
    refine o_step rfl (s_assign rfl) ?_
    refine o_nil ?_
    refine x_then (hK23 _ _ ?_)
    refine c_seq fun _ hK24 => ?_
    refine c_region ?_
    refine o_step rfl (s_move rfl) ?_
    refine o_step rfl (s_move rfl) ?_
    refine o_yes rfl rfl ?_
    refine o_step rfl (s_move rfl) ?_
    refine o_yes rfl rfl ?_
    refine o_step rfl (s_len rfl) ?_
    refine o_yes rfl rfl ?_
    by_cases hb0 : ((rd s n).1.length : Int) = 0
    ·
     refine o_step rfl (step_cast (v' := .bool true) (s_eql rfl rfl) (by rw [decide_eq_true hb0])) ?_
     refine o_step rfl (s_pick_t rfl rfl) ?_
     refine o_nil ?_
     refine x_then (hK24 _ _ ?_)
     refine c_true rfl ?_
     refine c_exit ?_
     refine x_then_exit ?_
     refine x_block_exit ?_
     refine x_then (hK19 _ _ ?_)
     refine c_region ?_
     refine o_step rfl (s_add rfl rfl (by omega)) ?_
     refine o_step rfl (s_move rfl) ?_
     refine o_nil ?_
     exact x_then (x_inv (j + 1, _, _) ⟨by omega, hH2, fits_file0 hdr hb0 hft, by rw [hfq, hdr, flush_file0 hb0]⟩ (by first | omega | (dsimp only; omega)) sbA hzB)
    ·
     refine o_step rfl (step_cast (v' := .bool false) (s_eql rfl rfl) (by rw [decide_eq_false hb0])) ?_
     refine o_step rfl (s_pick_t rfl rfl) ?_
     refine o_nil ?_
     refine x_then (hK24 _ _ ?_)
     refine c_false rfl ?_
     refine c_skip ?_
     refine x_then (hK22 _ _ ?_)
     refine c_seq fun _ hK25 => ?_
     refine c_region ?_
     refine o_step rfl (s_move rfl) ?_
     refine o_step rfl (s_move rfl) ?_
     refine o_callC (us := us2) (vs := [_]) (cs := cs2) (hO _ S2 _ Sb38 a38 c38 hH2 hown (fits_file hdr hb0 hft).1) rfl rfl rfl ((Pick.takeA pkA pkA)) (fun w st => OldL.st hw st (HIn.app2 hiA hiA)) (fun v52 S52 ⟨hv52, hS52⟩ => ?_)
     subst hv52
     refine o_step rfl (s_assign rfl) ?_
     refine o_nil ?_
     refine x_then (hK25 _ _ ?_)
     refine c_seq fun _ hK26 => ?_
     refine c_region ?_
     refine o_step rfl (s_move rfl) ?_
     refine o_step rfl (s_neq rfl rfl) ?_
     refine o_nil ?_
     refine x_then (hK26 _ _ ?_)
     refine c_if rfl (fun hne => ?_) (fun hne => ?_)
     ·
      refine c_seq fun _ hK27 => ?_
      refine c_region ?_
      refine o_step rfl (s_move rfl) ?_
      refine o_step rfl (s_assign rfl) ?_
      refine o_nil ?_
      refine x_then (hK27 _ _ ?_)
      refine c_ret ?_
      refine x_block_ret (x_then_ret (x_then_ret (x_block_ret (x_then_ret (?_)))))
      refine x_sub (Sub.refl _) (H' := S52) hzB ?_
      exact x_ret rfl (.tmp rfl (.nil)) (⟨by rw [hfq, hdr, flush_file hb0, if_pos hne]; rfl, by rw [hfq, hdr, flush_file hb0, if_pos hne]; exact hS52⟩)
     ·
      refine c_skip ?_
      refine x_block ?_
      refine x_then (hK19 _ _ ?_)
      refine c_region ?_
      refine o_step rfl (s_add rfl rfl (by omega)) ?_
      refine o_step rfl (s_move rfl) ?_
      refine o_nil ?_
      exact x_then (x_inv (j + 1, _, _) ⟨by omega, hS52, (fits_file hdr hb0 hft).2 (Decidable.not_not.1 hne), by rw [hfq, hdr, flush_file hb0, if_neg hne]⟩ (by first | omega | (dsimp only; omega)) sbA hzB)
  ·
   have hd0 : l.drop j = [] := List.drop_eq_nil_of_le (by have := hl.len; omega)
   refine c_exit ?_
   refine x_then_exit ?_
   refine x_then_exit ?_
   refine x_block_exit ?_
   refine x_then (hK6 _ _ ?_)
   refine c_seq fun _ hK28 => ?_
   refine c_region ?_
   refine o_step rfl (s_assign rfl) ?_
   refine o_nil ?_
   refine x_then (hK28 _ _ ?_)
   refine c_ret ?_
   refine ?_
   refine x_sub (Sub.refl _) (H' := S) hzB ?_
   exact x_ret rfl (.tmp rfl (.nil)) (⟨by rw [hfq, hd0]; rfl, by rw [hfq, hd0]; exact hH⟩)
end Go.Proofs.YtmmajabfmhipeaaDoor
namespace Go.Proofs.YtmmajabfmhipeaaDoor
open Go Go.HL Go.Proofs Go.Tab
open Classical in
theorem hsub_count : ∀ {H' H : Hp}, (∀ x, H'.count x ≤ H.count x) → HSub H H'
  | [], H, _ => HSub.nil
  | a :: H', H, h => by
    have ha : a ∈ H := by
      have := h a
      rw [List.count_cons_self] at this
      exact List.count_pos_iff.1 (by omega)
    have hp := List.perm_cons_erase ha
    refine (HSub.of_perm hp).trans (HSub.keep (hsub_count fun x => ?_))
    have h1 := h x
    rw [hp.count_eq x] at h1
    simp only [List.count_cons] at h1
    omega
set_option maxHeartbeats 4000000 in
theorem does3_fn (bp bq br bs bw : Nat) (o : OpQ) (x0 x1 x2 x3 x4 x5 x6 x7 x8 x9 x10 x11 x12 x13 x14 x15 x16 x17 x18 x19 x20 x21 x22 x23 x24 x25 x26 x27 x28 x29 : Value) (y0 y1 y2 y3 y4 y5 y6 y7 y8 y9 y10 y11 y12 y13 y14 y15 y16 y17 y18 y19 y20 y21 y22 y23 y24 : Value) (qa : Option Addr) (qc : Nat) (ql : List IV) (So : Hp) (hq : OwnS Eiv 1 135 (.slice qa ql.length qc) ql So) (hql : ql.length ≤ 4294967290) (ia : Option Addr) (ic : Nat) (il : List RI) (SI : Hp) (hi : OwnS Eri 3 131 (.slice ia il.length ic) il SI) (hil : il.length ≤ 4294967290) (L : List (Sl UInt8)) (fs : List FileV) (g0 z : Nat) (l : List QI) (Si RA SX RB : Hp) (hqi : Items ql l Si) (hia : il.map RI.abs = l) (hir : ∀ x ∈ il, RdS Eb x.t.v x.t.xs SX) (hPA : APre (⟨bs, bq, o.fail, o.err, o.during, o.b, o.n⟩ : AP) fs L g0 z) (hPB : APre (⟨bw, br, o.fail, o.err, o.during, o.b, o.n⟩ : AP) fs L g0 z) (hA : AH (⟨bs, bq, o.fail, o.err, o.during, o.b, o.n⟩ : AP) fs L g0 z ⟨[], 0, []⟩ ((bq, .cells [.bool true, .slice none 0 0].toArray 109 (0, 0)) :: (bs, .cells [x0, x1, x2, x3, x4, .int .i64 o.fail, .int .i64 o.err, x7, x8, x9, x10, x11, x12, x13, x14, x15, x16, .int .i64 0, x18, x19, x20, .slice none 0 0, x22, x23, x24, x25, .int .i64 o.during, .slice o.b.a o.b.xs.length o.b.c, .string o.n, x29].toArray 45 (0, 0)) :: RA)) (hB : BH (⟨bw, br, o.fail, o.err, o.during, o.b, o.n⟩ : AP) fs L g0 z ⟨[], 0, []⟩ ((br, .cells [.slice none 0 0].toArray 112 (0, 0)) :: (bw, .cells [y0, y1, y2, y3, y4, .int .i64 o.fail, .int .i64 o.err, y7, .int .i64 o.during, y9, .slice o.b.a o.b.xs.length o.b.c, .string o.n, y12, y13, y14, y15, y16, .int .i64 0, y18, y19, y20, .slice none 0 0, y22, y23, y24].toArray 43 (0, 0)) :: RB)) (hft : fitsQ (qR fs) (qO o.fail o.err o.during o.b.xs o.n) qKR qKO l ⟨[], 0, []⟩) (hk : o.k = 3)  : HL.Fn Tryd.prog 9 [.pointer (some ⟨bp, 0, none⟩), .agg (Eopq o).toArray] (OldL L ((bp, .cells [.pointer (some ⟨bq, 0, none⟩), .pointer (some ⟨br, 0, none⟩), .pointer (some ⟨bs, 0, none⟩), .pointer (some ⟨bw, 0, none⟩)].toArray 33 (0, 0)) :: (bs, .cells [x0, x1, x2, x3, x4, x5, x6, x7, x8, x9, x10, x11, x12, x13, x14, x15, x16, x17, x18, x19, x20, x21, x22, x23, x24, x25, x26, x27, x28, x29].toArray 45 (0, 0)) :: (bw, .cells [y0, y1, y2, y3, y4, y5, y6, y7, y8, y9, y10, y11, y12, y13, y14, y15, y16, y17, y18, y19, y20, y21, y22, y23, y24].toArray 43 (0, 0)) :: (bq, .cells [.bool true, .slice qa ql.length qc].toArray 109 (0, 0)) :: (br, .cells [.slice ia il.length ic].toArray 112 (0, 0)) :: (So ++ (Si ++ (SI ++ (SX ++ (RA ++ RB))))))) ((bp, .cells [.pointer (some ⟨bq, 0, none⟩), .pointer (some ⟨br, 0, none⟩), .pointer (some ⟨bs, 0, none⟩), .pointer (some ⟨bw, 0, none⟩)].toArray 33 (0, 0)) :: (bs, .cells [x0, x1, x2, x3, x4, x5, x6, x7, x8, x9, x10, x11, x12, x13, x14, x15, x16, x17, x18, x19, x20, x21, x22, x23, x24, x25, x26, x27, x28, x29].toArray 45 (0, 0)) :: (bw, .cells [y0, y1, y2, y3, y4, y5, y6, y7, y8, y9, y10, y11, y12, y13, y14, y15, y16, y17, y18, y19, y20, y21, y22, y23, y24].toArray 43 (0, 0)) :: (bq, .cells [.bool true, .slice qa ql.length qc].toArray 109 (0, 0)) :: (br, .cells [.slice ia il.length ic].toArray 112 (0, 0)) :: (So ++ (Si ++ (SI ++ (SX ++ (RA ++ RB)))))) (fun v S' => v = .bool true ∧ ∃ SA SB, S' = (bp, .cells [.pointer (some ⟨bq, 0, none⟩), .pointer (some ⟨br, 0, none⟩), .pointer (some ⟨bs, 0, none⟩), .pointer (some ⟨bw, 0, none⟩)].toArray 33 (0, 0)) :: (SA ++ SB) ∧ AH (⟨bs, bq, o.fail, o.err, o.during, o.b, o.n⟩ : AP) fs L g0 z (flushQ (qR fs) (qO o.fail o.err o.during o.b.xs o.n) l ⟨[], 0, []⟩).2 SA ∧ BH (⟨bw, br, o.fail, o.err, o.during, o.b, o.n⟩ : AP) fs L g0 z (flushQ (qR fs) (qO o.fail o.err o.during o.b.xs o.n) l ⟨[], 0, []⟩).2 SB) := by
  refine fn_of Tryd.func9 rfl rfl rfl fun w0 hw => ?_
  refine c_seq fun _ hK1 => ?_
  refine c_region ?_
  refine o_box rfl rfl rfl fun b3 => ?_
  refine o_step rfl (s_assign rfl) ?_
  refine o_nil ?_
  refine x_then (hK1 _ _ ?_)
  refine c_seq fun _ hK2 => ?_
  refine c_seq fun _ hK3 => ?_
  refine c_region ?_
  refine o_step rfl (s_field rfl rfl (by decide)) ?_
  refine o_step rfl (s_ld rfl (.own meA rfl)) ?_
  refine o_nil ?_
  refine x_then (hK3 _ _ ?_)
  refine c_block ?_
  refine c_seq fun _ hK4 => ?_
  refine c_region ?_
  refine o_step rfl (step_cast (v' := .bool false) (s_eql rfl rfl) (by rw [decide_eq_false (by omega)])) ?_
  refine o_step rfl (s_assign rfl) ?_
  refine o_nil ?_
  refine x_then (hK4 _ _ ?_)
  refine c_false rfl ?_
  refine c_seq fun _ hK5 => ?_
  refine c_region ?_
  refine o_step rfl (step_cast (v' := .bool false) (s_eql rfl rfl) (by rw [decide_eq_false (by omega)])) ?_
  refine o_step rfl (s_assign rfl) ?_
  refine o_nil ?_
  refine x_then (hK5 _ _ ?_)
  refine c_false rfl ?_
  refine c_seq fun _ hK6 => ?_
  refine c_region ?_
  refine o_step rfl (step_cast (v' := .bool false) (s_eql rfl rfl) (by rw [decide_eq_false (by omega)])) ?_
  refine o_step rfl (s_assign rfl) ?_
  refine o_nil ?_
  refine x_then (hK6 _ _ ?_)
  refine c_false rfl ?_
  refine c_seq fun _ hK7 => ?_
  refine c_region ?_
  refine o_step rfl (step_cast (v' := .bool false) (s_eql rfl rfl) (by rw [decide_eq_false (by omega)])) ?_
  refine o_step rfl (s_assign rfl) ?_
  refine o_nil ?_
  refine x_then (hK7 _ _ ?_)
  refine c_false rfl ?_
  refine c_seq fun _ hK8 => ?_
  refine c_region ?_
  refine o_step rfl (step_cast (v' := .bool true) (s_eql rfl rfl) (by rw [decide_eq_true (by omega)])) ?_
  refine o_step rfl (s_assign rfl) ?_
  refine o_nil ?_
  refine x_then (hK8 _ _ ?_)
  refine c_true rfl ?_
  refine c_seq fun _ hK9 => ?_
  refine c_region ?_
  refine o_step rfl (s_move rfl) ?_
  refine o_step rfl (s_ldB rfl (RdPK.cels (.own meA)) lnA) ?_
  refine o_call (begins_fn bp bq br bs bw o x0 x1 x2 x3 x4 x5 x6 x7 x8 x9 x10 x11 x12 x13 x14 x15 x16 x17 x18 x19 x20 x21 x22 x23 x24 x25 x26 x27 x28 x29 y0 y1 y2 y3 y4 y5 y6 y7 y8 y9 y10 y11 y12 y13 y14 y15 y16 y17 y18 y19 y20 y21 y22 y23 y24) rfl rfl rfl ((Pick.takeC pkA (Pick.takeC pkA pkA))) (fun _ _ => trivial) (fun v97 S97 ⟨hv97, hS97⟩ => ?_)
  subst hv97
  subst hS97
  refine o_nil ?_
  refine x_then (hK9 _ _ ?_)
  refine c_seq fun _ hK10 => ?_
  refine c_drawE ([(bp, .cells [.pointer (some ⟨bq, 0, none⟩), .pointer (some ⟨br, 0, none⟩), .pointer (some ⟨bs, 0, none⟩), .pointer (some ⟨bw, 0, none⟩)].toArray 33 (0, 0))]) (fun i => false) ?_
  refine e_take 0 rfl (by kernel_rfl) (by kernel_rfl) (by kernel_rfl) (by kernel_rfl) (fun _ _ => rfl) rfl hzB (s_move rfl) ?_
  refine e_take 1 rfl (by kernel_rfl) (by kernel_rfl) (by kernel_rfl) (by kernel_rfl) (fun _ _ => rfl) rfl hzB (s_nil rfl) ?_
  refine e_take 2 rfl (by kernel_rfl) (by kernel_rfl) (by kernel_rfl) (by kernel_rfl) (fun _ _ => rfl) rfl hzB (s_field rfl rfl (by decide)) ?_
  refine e_take 3 rfl (by kernel_rfl) (by kernel_rfl) (by kernel_rfl) (by kernel_rfl) (fun _ _ => rfl) rfl hzB (s_ld rfl (.own meA rfl)) ?_
  refine e_take 4 rfl (by kernel_rfl) (by kernel_rfl) (by kernel_rfl) (by kernel_rfl) (fun _ _ => rfl) rfl hzB (s_move rfl) ?_
  refine e_take 5 rfl (by kernel_rfl) (by kernel_rfl) (by kernel_rfl) (by kernel_rfl) (fun _ _ => rfl) rfl hzB (s_nil rfl) ?_
  refine e_take 6 rfl (by kernel_rfl) (by kernel_rfl) (by kernel_rfl) (by kernel_rfl) (fun _ _ => rfl) rfl hzB (s_field rfl rfl (by decide)) ?_
  refine e_take 7 rfl (by kernel_rfl) (by kernel_rfl) (by kernel_rfl) (by kernel_rfl) (fun _ _ => rfl) rfl hzB (s_ld rfl (.own meA rfl)) ?_
  refine e_take 8 rfl (by kernel_rfl) (by kernel_rfl) (by kernel_rfl) (by kernel_rfl) (fun _ _ => rfl) rfl hzB (s_func (us := [_]) (vs := []) rfl rfl) ?_
  refine e_take 9 rfl (by kernel_rfl) (by kernel_rfl) (by kernel_rfl) (by kernel_rfl) (fun _ _ => rfl) rfl hzB (s_move rfl) ?_
  refine e_take 10 rfl (by kernel_rfl) (by kernel_rfl) (by kernel_rfl) (by kernel_rfl) (fun _ _ => rfl) rfl hzB (s_nil rfl) ?_
  refine e_take 11 rfl (by kernel_rfl) (by kernel_rfl) (by kernel_rfl) (by kernel_rfl) (fun _ _ => rfl) rfl hzB (s_field rfl rfl (by decide)) ?_
  refine e_take 12 rfl (by kernel_rfl) (by kernel_rfl) (by kernel_rfl) (by kernel_rfl) (fun _ _ => rfl) rfl hzB (s_ld rfl (.own meA rfl)) ?_
  refine e_take 13 rfl (by kernel_rfl) (by kernel_rfl) (by kernel_rfl) (by kernel_rfl) (fun _ _ => rfl) rfl hzB (s_func (us := [_]) (vs := []) rfl rfl) ?_
  refine e_one 14 rfl (by kernel_rfl) ?_
  refine o_call (qflushL_fn L (qR fs) (qO o.fail o.err o.during o.b.xs o.n) qKR qKO (AH (⟨bs, bq, o.fail, o.err, o.during, o.b, o.n⟩ : AP) fs L g0 z) 49 50 [.pointer (some ⟨bs, 0, none⟩)] [] [.pointer (some ⟨bs, 0, none⟩)] [] (fun s S n h k => aR_fn (⟨bs, bq, o.fail, o.err, o.during, o.b, o.n⟩ : AP) fs L g0 z hPA s S n h k) (fun s S b Sb a c h hb k => aO_fn (⟨bs, bq, o.fail, o.err, o.during, o.b, o.n⟩ : AP) fs L g0 z hPA s S b Sb a c h hb k) bq qa qc ql So Si ((bs, .cells [x0, x1, x2, x3, x4, .int .i64 o.fail, .int .i64 o.err, x7, x8, x9, x10, x11, x12, x13, x14, x15, x16, .int .i64 0, x18, x19, x20, .slice none 0 0, x22, x23, x24, x25, .int .i64 o.during, .slice o.b.a o.b.xs.length o.b.c, .string o.n, x29].toArray 45 (0, 0)) :: RA) hq l hqi ⟨[], 0, []⟩ hA hft) rfl rfl rfl ((Pick.takeC pkA (Pick.takeA pkA (Pick.takeA pkA (Pick.takeC pkA pkA))))) (fun w st => OldL.st hw st (hin_sub hzB)) (fun v112 S112 ⟨hv112, hA112⟩ => ?_)
  subst hv112
  refine o_nil ?_
  refine x_oneS hzB ?_
  refine e_take 15 rfl (by kernel_rfl) (by kernel_rfl) (by kernel_rfl) (by kernel_rfl) (fun _ _ => rfl) rfl hzB (s_assign rfl) ?_
  refine e_done (by kernel_rfl) ?_
  refine x_then (hK10 _ _ ?_)
  refine c_seq fun _ hK11 => ?_
  refine c_drawE ([(bp, .cells [.pointer (some ⟨bq, 0, none⟩), .pointer (some ⟨br, 0, none⟩), .pointer (some ⟨bs, 0, none⟩), .pointer (some ⟨bw, 0, none⟩)].toArray 33 (0, 0))]) (fun i => false) ?_
  refine e_take 0 rfl (by kernel_rfl) (by kernel_rfl) (by kernel_rfl) (by kernel_rfl) (fun _ _ => rfl) rfl hzB (s_move rfl) ?_
  refine e_take 1 rfl (by kernel_rfl) (by kernel_rfl) (by kernel_rfl) (by kernel_rfl) (fun _ _ => rfl) rfl hzB (s_nil rfl) ?_
  refine e_take 2 rfl (by kernel_rfl) (by kernel_rfl) (by kernel_rfl) (by kernel_rfl) (fun _ _ => rfl) rfl hzB (s_field rfl rfl (by decide)) ?_
  refine e_take 3 rfl (by kernel_rfl) (by kernel_rfl) (by kernel_rfl) (by kernel_rfl) (fun _ _ => rfl) rfl hzB (s_ld rfl (.own meA rfl)) ?_
  refine e_take 4 rfl (by kernel_rfl) (by kernel_rfl) (by kernel_rfl) (by kernel_rfl) (fun _ _ => rfl) rfl hzB (s_move rfl) ?_
  refine e_take 5 rfl (by kernel_rfl) (by kernel_rfl) (by kernel_rfl) (by kernel_rfl) (fun _ _ => rfl) rfl hzB (s_nil rfl) ?_
  refine e_take 6 rfl (by kernel_rfl) (by kernel_rfl) (by kernel_rfl) (by kernel_rfl) (fun _ _ => rfl) rfl hzB (s_field rfl rfl (by decide)) ?_
  refine e_take 7 rfl (by kernel_rfl) (by kernel_rfl) (by kernel_rfl) (by kernel_rfl) (fun _ _ => rfl) rfl hzB (s_ld rfl (.own meA rfl)) ?_
  refine e_one 8 rfl (by kernel_rfl) ?_
  refine o_call (rqFlush_fn (⟨bw, br, o.fail, o.err, o.during, o.b, o.n⟩ : AP) fs L g0 z hPB l ia ic il SI SX ((bw, .cells [y0, y1, y2, y3, y4, .int .i64 o.fail, .int .i64 o.err, y7, .int .i64 o.during, y9, .slice o.b.a o.b.xs.length o.b.c, .string o.n, y12, y13, y14, y15, y16, .int .i64 0, y18, y19, y20, .slice none 0 0, y22, y23, y24].toArray 43 (0, 0)) :: RB) hi hia hir ⟨[], 0, []⟩ hB hft) rfl rfl rfl ((Pick.takeC pkA (Pick.takeA pkA (Pick.takeA pkA (Pick.takeC pkA pkA))))) (fun w st => OldL.st hw st (hin_sub hzB)) (fun v121 S121 ⟨hv121, hB121⟩ => ?_)
  subst hv121
  obtain ⟨d, hpd, okd⟩ := hA112
  obtain ⟨e, hpe, oke⟩ := hB121
  refine o_sk (H' := (bp, .cells [.pointer (some ⟨bq, 0, none⟩), .pointer (some ⟨br, 0, none⟩), .pointer (some ⟨bs, 0, none⟩), .pointer (some ⟨bw, 0, none⟩)].toArray 33 (0, 0)) :: (b3, .cells (Eopq o).toArray 48 (0, 0)) :: (bs, .cells [.slice none 0 0, .pointer none, .pointer none, .pointer none, .slice d.fa fs.length d.fc, .int .i64 o.fail, .int .i64 o.err, .int .i64 0, .int .i64 0, .pointer none, .slice none 0 0, .string ⟨#[]⟩, .bool false, .bool false, .bool false, .bool false, .int .i64 0, .int .i64 ((flushQ (qR fs) (qO o.fail o.err o.during o.b.xs o.n) l ⟨[], 0, []⟩).2.outs : Nat), .int .i64 d.sum, .slice d.aa d.al.length d.ac, .string ⟨#[]⟩, .slice d.ca d.cl.length d.cc, .slice d.ga d.gl.length d.gc, .slice d.la d.ll.length d.lc, .slice d.wa d.wl.length d.wc, .pointer (some ⟨bq, 0, none⟩), .int .i64 o.during, .slice o.b.a o.b.xs.length o.b.c, .string o.n, .slice d.sa d.sl.length d.sc].toArray 45 (0, 0)) :: (bw, .cells [.slice none 0 0, .pointer none, .pointer none, .pointer none, .slice e.fa fs.length e.fc, .int .i64 o.fail, .int .i64 o.err, .int .i64 0, .int .i64 o.during, .pointer (some ⟨br, 0, none⟩), .slice o.b.a o.b.xs.length o.b.c, .string o.n, .bool false, .bool false, .bool false, .bool false, .int .i64 0, .int .i64 ((flushQ (qR fs) (qO o.fail o.err o.during o.b.xs o.n) l ⟨[], 0, []⟩).2.outs : Nat), .int .i64 e.sum, .slice e.aa e.al.length e.ac, .string ⟨#[]⟩, .slice e.ca e.cl.length e.cc, .slice e.ga e.gl.length e.gc, .slice e.la e.ll.length e.lc, .slice e.wa e.wl.length e.wc].toArray 43 (0, 0)) :: (bq, .cells [.bool true, .slice d.qa d.ql.length d.qc].toArray 109 (0, 0)) :: (br, .cells [.slice e.ia e.il.length e.ic].toArray 112 (0, 0)) :: (d.Sf ++ (d.Sa ++ (d.Sc ++ (d.Sg ++ (d.SG ++ (d.Sn ++ (d.SL ++ (d.Sw ++ (d.Ss ++ (d.So ++ (d.Si ++ (d.Sx ++ (e.Sf ++ (e.Sa ++ (e.Sc ++ (e.Sg ++ (e.Sn ++ (e.Sw ++ (e.SI ++ e.Sx)))))))))))))))))))) (by classical exact hsub_count fun x => by have h1 := hpd.count_eq x; have h2 := hpe.count_eq x; simp only [AD.heap, AD.rest, BD.heap, BD.rest, List.count_append, List.count_cons, List.cons_append, List.nil_append, List.count_nil] at h1 h2 ⊢; omega) ?_
  refine o_nil ?_
  refine x_oneS hzB ?_
  refine e_take 9 rfl (by kernel_rfl) (by kernel_rfl) (by kernel_rfl) (by kernel_rfl) (fun _ _ => rfl) rfl hzB (s_assign rfl) ?_
  refine e_done (by kernel_rfl) ?_
  refine x_then (hK11 _ _ ?_)
  refine c_seq fun _ hK12 => ?_
  refine c_drawE ([(bp, .cells [.pointer (some ⟨bq, 0, none⟩), .pointer (some ⟨br, 0, none⟩), .pointer (some ⟨bs, 0, none⟩), .pointer (some ⟨bw, 0, none⟩)].toArray 33 (0, 0)), (bw, .cells [.slice none 0 0, .pointer none, .pointer none, .pointer none, .slice e.fa fs.length e.fc, .int .i64 o.fail, .int .i64 o.err, .int .i64 0, .int .i64 o.during, .pointer (some ⟨br, 0, none⟩), .slice o.b.a o.b.xs.length o.b.c, .string o.n, .bool false, .bool false, .bool false, .bool false, .int .i64 0, .int .i64 ((flushQ (qR fs) (qO o.fail o.err o.during o.b.xs o.n) l ⟨[], 0, []⟩).2.outs : Nat), .int .i64 e.sum, .slice e.aa e.al.length e.ac, .string ⟨#[]⟩, .slice e.ca e.cl.length e.cc, .slice e.ga e.gl.length e.gc, .slice e.la e.ll.length e.lc, .slice e.wa e.wl.length e.wc].toArray 43 (0, 0))]) (fun i => false) ?_
  refine e_take 0 rfl (by kernel_rfl) (by kernel_rfl) (by kernel_rfl) (by kernel_rfl) (fun _ _ => rfl) rfl hzB (s_move rfl) ?_
  refine e_take 1 rfl (by kernel_rfl) (by kernel_rfl) (by kernel_rfl) (by kernel_rfl) (fun _ _ => rfl) rfl hzB (s_move rfl) ?_
  refine e_take 2 rfl (by kernel_rfl) (by kernel_rfl) (by kernel_rfl) (by kernel_rfl) (fun _ _ => rfl) rfl hzB (step_cast (v' := .bool true) (s_eql rfl rfl) (by rw [decide_eq_true rfl])) ?_
  refine e_take 3 rfl (by kernel_rfl) (by kernel_rfl) (by kernel_rfl) (by kernel_rfl) (fun _ _ => rfl) rfl hzB (s_move rfl) ?_
  refine e_take 12 rfl (by kernel_rfl) (by kernel_rfl) (by kernel_rfl) (by kernel_rfl) (fun _ fr => by rw [wanted_of fr rfl rfl rfl]; rfl) rfl hzB (s_move rfl) ?_
  refine e_take 13 rfl (by kernel_rfl) (by kernel_rfl) (by kernel_rfl) (by kernel_rfl) (fun _ fr => by rw [wanted_of fr rfl rfl rfl]; rfl) rfl hzB (s_nil rfl) ?_
  refine e_take 14 rfl (by kernel_rfl) (by kernel_rfl) (by kernel_rfl) (by kernel_rfl) (fun _ fr => by rw [wanted_of fr rfl rfl rfl]; rfl) rfl hzB (s_field rfl rfl (by decide)) ?_
  refine e_take 15 rfl (by kernel_rfl) (by kernel_rfl) (by kernel_rfl) (by kernel_rfl) (fun _ fr => by rw [wanted_of fr rfl rfl rfl]; rfl) rfl hzB (s_ld rfl (.own meA rfl)) ?_
  refine e_take 16 rfl (by kernel_rfl) (by kernel_rfl) (by kernel_rfl) (by kernel_rfl) (fun _ fr => by rw [wanted_of fr rfl rfl rfl]; rfl) rfl hzB (s_nil rfl) ?_
  refine e_take 17 rfl (by kernel_rfl) (by kernel_rfl) (by kernel_rfl) (by kernel_rfl) (fun _ fr => by rw [wanted_of fr rfl rfl rfl]; rfl) rfl hzB (s_field rfl rfl (by decide)) ?_
  refine e_take 18 rfl (by kernel_rfl) (by kernel_rfl) (by kernel_rfl) (by kernel_rfl) (fun _ fr => by rw [wanted_of fr rfl rfl rfl]; rfl) rfl hzB (s_ld rfl (.own meA rfl)) ?_
  refine e_take 4 rfl (by kernel_rfl) (by kernel_rfl) (by kernel_rfl) (by kernel_rfl) (fun _ fr => by rw [wanted_of fr rfl rfl rfl]; rfl) rfl hzB (s_move rfl) ?_
  refine e_take 5 rfl (by kernel_rfl) (by kernel_rfl) (by kernel_rfl) (by kernel_rfl) (fun _ fr => by rw [wanted_of fr rfl rfl rfl]; rfl) rfl hzB (s_nil rfl) ?_
  refine e_take 6 rfl (by kernel_rfl) (by kernel_rfl) (by kernel_rfl) (by kernel_rfl) (fun _ fr => by rw [wanted_of fr rfl rfl rfl]; rfl) rfl hzB (s_field rfl rfl (by decide)) ?_
  refine e_take 7 rfl (by kernel_rfl) (by kernel_rfl) (by kernel_rfl) (by kernel_rfl) (fun _ fr => by rw [wanted_of fr rfl rfl rfl]; rfl) rfl hzB (s_ld rfl (.own meA rfl)) ?_
  refine e_take 8 rfl (by kernel_rfl) (by kernel_rfl) (by kernel_rfl) (by kernel_rfl) (fun _ fr => by rw [wanted_of fr rfl rfl rfl]; rfl) rfl hzB (s_nil rfl) ?_
  refine e_take 9 rfl (by kernel_rfl) (by kernel_rfl) (by kernel_rfl) (by kernel_rfl) (fun _ fr => by rw [wanted_of fr rfl rfl rfl]; rfl) rfl hzB (s_field rfl rfl (by decide)) ?_
  refine e_take 10 rfl (by kernel_rfl) (by kernel_rfl) (by kernel_rfl) (by kernel_rfl) (fun _ fr => by rw [wanted_of fr rfl rfl rfl]; rfl) rfl hzB (s_field rfl rfl (by decide)) ?_
  refine e_one 11 rfl (by kernel_rfl) ?_
  refine o_yes rfl rfl ?_
  refine o_step rfl (s_ld rfl (.own meA rfl)) ?_
  refine o_nil ?_
  refine x_oneS hzB ?_
  refine e_one 19 rfl (by kernel_rfl) ?_
  refine o_yes rfl rfl ?_
  refine o_callP (sameCalls_fn d.ca e.ca d.cc e.cc d.cl e.cl (okd.hci.abs.trans oke.hci.abs.symm)) rfl rfl rfl (fun w st => ⟨(okd.hc.rdk hiA).out w st, (oke.hc.rdk hiA).out w st, fun x hx => ((okd.hci.rd x hx).rdk hiA).out w st, fun x hx => ((oke.hci.rd x hx).rdk hiA).out w st⟩) (fun v141 hv141 => ?_)
  subst hv141
  refine o_nil ?_
  refine x_oneS hzB ?_
  refine e_take 20 rfl (by kernel_rfl) (by kernel_rfl) (by kernel_rfl) (by kernel_rfl) (fun _ _ => rfl) rfl hzB (s_pick_t rfl rfl) ?_
  refine e_take 21 rfl (by kernel_rfl) (by kernel_rfl) (by kernel_rfl) (by kernel_rfl) (fun _ _ => rfl) rfl hzB (s_move rfl) ?_
  refine e_take 22 rfl (by kernel_rfl) (by kernel_rfl) (by kernel_rfl) (by kernel_rfl) (fun _ fr => by rw [wanted_of fr rfl rfl rfl]; rfl) rfl hzB (s_move rfl) ?_
  refine e_take 23 rfl (by kernel_rfl) (by kernel_rfl) (by kernel_rfl) (by kernel_rfl) (fun _ fr => by rw [wanted_of fr rfl rfl rfl]; rfl) rfl hzB (s_nil rfl) ?_
  refine e_take 24 rfl (by kernel_rfl) (by kernel_rfl) (by kernel_rfl) (by kernel_rfl) (fun _ fr => by rw [wanted_of fr rfl rfl rfl]; rfl) rfl hzB (s_field rfl rfl (by decide)) ?_
  refine e_take 25 rfl (by kernel_rfl) (by kernel_rfl) (by kernel_rfl) (by kernel_rfl) (fun _ fr => by rw [wanted_of fr rfl rfl rfl]; rfl) rfl hzB (s_ld rfl (.own meA rfl)) ?_
  refine e_one 26 rfl (by kernel_rfl) ?_
  refine o_yes rfl rfl ?_
  refine o_call (skept_fn bs (.slice none 0 0) (.pointer none) (.pointer none) (.pointer none) (.slice d.fa fs.length d.fc) (.int .i64 o.fail) (.int .i64 o.err) (.int .i64 0) (.int .i64 0) (.pointer none) (.slice none 0 0) (.string ⟨#[]⟩) (.bool false) (.bool false) (.bool false) (.bool false) (.int .i64 0) (.int .i64 ((flushQ (qR fs) (qO o.fail o.err o.during o.b.xs o.n) l ⟨[], 0, []⟩).2.outs : Nat)) (.int .i64 d.sum) (.slice d.aa d.al.length d.ac) (.string ⟨#[]⟩) (.slice d.ca d.cl.length d.cc) (.pointer (some ⟨bq, 0, none⟩)) (.int .i64 o.during) (.slice o.b.a o.b.xs.length o.b.c) (.string o.n) d.la d.wa d.lc d.wc d.ll d.wl okd.hwx okd.hlb d.Sn d.Sw d.SL okd.hl okd.hw okd.hlo L okd.hwL d.ga d.gc d.gl d.Sg d.SG okd.hg okd.hgo d.sa d.sc d.sl d.Ss d.Sx okd.hs okd.hsx okd.hsr) rfl rfl rfl ((Pick.takeC pkA (Pick.takeA pkA (Pick.takeA pkA (Pick.takeA pkA (Pick.takeA pkA (Pick.takeA pkA (Pick.takeA pkA pkA)))))))) (fun w st => OldL.st hw st (hin_sub hzB)) (fun v148 S148 ⟨hv148, hS148⟩ => ?_)
  subst hv148
  subst hS148
  refine o_nil ?_
  refine x_oneS hzB ?_
  refine e_take 27 rfl (by kernel_rfl) (by kernel_rfl) (by kernel_rfl) (by kernel_rfl) (fun _ _ => rfl) rfl hzB (s_pick_t rfl rfl) ?_
  refine e_take 28 rfl (by kernel_rfl) (by kernel_rfl) (by kernel_rfl) (by kernel_rfl) (fun _ _ => rfl) rfl hzB (s_assign rfl) ?_
  refine e_done (by kernel_rfl) ?_
  refine x_then (hK12 _ _ ?_)
  refine c_ret ?_
  refine x_block_ret (x_then_ret (?_))
  refine x_sub (Sub.refl _) (H' := (bp, .cells [.pointer (some ⟨bq, 0, none⟩), .pointer (some ⟨br, 0, none⟩), .pointer (some ⟨bs, 0, none⟩), .pointer (some ⟨bw, 0, none⟩)].toArray 33 (0, 0)) :: (((bs, .cells [.slice none 0 0, .pointer none, .pointer none, .pointer none, .slice d.fa fs.length d.fc, .int .i64 o.fail, .int .i64 o.err, .int .i64 0, .int .i64 0, .pointer none, .slice none 0 0, .string ⟨#[]⟩, .bool false, .bool false, .bool false, .bool false, .int .i64 0, .int .i64 ((flushQ (qR fs) (qO o.fail o.err o.during o.b.xs o.n) l ⟨[], 0, []⟩).2.outs : Nat), .int .i64 d.sum, .slice d.aa d.al.length d.ac, .string ⟨#[]⟩, .slice d.ca d.cl.length d.cc, .slice d.ga d.gl.length d.gc, .slice none 0 0, .slice none 0 0, .pointer (some ⟨bq, 0, none⟩), .int .i64 o.during, .slice o.b.a o.b.xs.length o.b.c, .string o.n, .slice d.sa d.sl.length d.sc].toArray 45 (0, 0)) :: (bq, .cells [.bool true, .slice d.qa d.ql.length d.qc].toArray 109 (0, 0)) :: (d.Sf ++ (d.Sa ++ (d.Sc ++ (d.Sg ++ (d.SG ++ (d.Ss ++ (d.So ++ (d.Si ++ d.Sx))))))))) ++ ((bw, .cells [.slice none 0 0, .pointer none, .pointer none, .pointer none, .slice e.fa fs.length e.fc, .int .i64 o.fail, .int .i64 o.err, .int .i64 0, .int .i64 o.during, .pointer (some ⟨br, 0, none⟩), .slice o.b.a o.b.xs.length o.b.c, .string o.n, .bool false, .bool false, .bool false, .bool false, .int .i64 0, .int .i64 ((flushQ (qR fs) (qO o.fail o.err o.during o.b.xs o.n) l ⟨[], 0, []⟩).2.outs : Nat), .int .i64 e.sum, .slice e.aa e.al.length e.ac, .string ⟨#[]⟩, .slice e.ca e.cl.length e.cc, .slice e.ga e.gl.length e.gc, .slice e.la e.ll.length e.lc, .slice e.wa e.wl.length e.wc].toArray 43 (0, 0)) :: (br, .cells [.slice e.ia e.il.length e.ic].toArray 112 (0, 0)) :: (e.Sf ++ (e.Sa ++ (e.Sc ++ (e.Sg ++ (e.Sn ++ (e.Sw ++ (e.SI ++ e.Sx)))))))))) (by classical exact hsub_count fun x => by simp only [AD.heap, AD.rest, BD.heap, BD.rest, List.count_append, List.count_cons, List.cons_append, List.nil_append, List.count_nil]; omega) ?_
  exact x_ret rfl (.tmp rfl (.nil)) (⟨rfl, _, _, rfl, ⟨{ d with la := none, lc := 0, ll := [], Sn := [], SL := [], wa := none, wc := 0, wl := [], Sw := [] }, (by refine List.Perm.cons _ (List.Perm.cons _ ?_); classical exact List.perm_iff_count.2 fun x => by simp only [AD.heap, AD.rest, BD.heap, BD.rest, List.count_append, List.count_cons, List.cons_append, List.nil_append, List.count_nil]), ⟨okd.hf, okd.hsum, okd.ha, okd.hal, okd.hc, okd.hci, okd.hg, okd.hgo, okd.hgl, okd.hgb, .nil, OwnL.nil, Nat.zero_le _, fun _ h => (by cases h), .nil, rfl, fun _ h => (by cases h), okd.hs, okd.hsx, okd.hsr, okd.hq, okd.hqi⟩⟩, ⟨e, List.Perm.refl _, oke⟩⟩)
end Go.Proofs.YtmmajabfmhipeaaDoor
