/- Part of the proofs over this seat: see the text that holds the theorem. Conditions: each theorem bears its own. -/
import Derived.Test.YtmmajabfmhipeaaDoorTC1Z
import Derived.Test.YtmmajabfmhipeaaDoorHlB
namespace Go.Proofs.YtmmajabfmhipeaaDoor
open Go Go.HL Go.Proofs
/-- what waits in a queue -/
inductive QI where
  | text (b : List UInt8)
  | file (n : ByteArray)
def iv0 (ql : List IV) (j : Nat) : IV := ql.getD j ⟨0, .nilIface⟩
theorem iv0_get {ql : List IV} {j : Nat} (h : j < ql.length) : ql[j]? = some (iv0 ql j) := by simp [iv0, List.getD, List.getElem?_eq_getElem h]
def ItemOk (Si : Hp) (x : IV) : QI → Prop
  | .text b => ∃ s : Sl UInt8, x = ⟨141, s.v⟩ ∧ s.xs = b ∧ RdS Eb s.v s.xs Si
  | .file n => x = ⟨133, .string n⟩
structure Items (ql : List IV) (l : List QI) (Si : Hp) : Prop where
  len : ql.length = l.length
  ok : ∀ (j : Nat) (q : QI), l[j]? = some q → ItemOk Si (iv0 ql j) q
theorem Items.at {ql : List IV} {l : List QI} {Si : Hp} (h : Items ql l Si) {j : Nat} (hj : j < ql.length) : (∃ (x : Sl UInt8) (b : List UInt8), iv0 ql j = ⟨141, x.v⟩ ∧ x.xs = b ∧ RdS Eb x.v x.xs Si ∧ l.drop j = .text b :: l.drop (j + 1)) ∨ (∃ n : ByteArray, iv0 ql j = ⟨133, .string n⟩ ∧ l.drop j = .file n :: l.drop (j + 1)) := by
  have hl : j < l.length := by have := h.len; omega
  have h1 := h.ok j l[j] (List.getElem?_eq_getElem hl)
  have h2 := List.drop_eq_getElem_cons hl
  cases hq : l[j] with
  | text b =>
    rw [hq] at h1 h2
    obtain ⟨s, e1, e2, e3⟩ := h1
    exact .inl ⟨s, b, e1, e2, e3, h2⟩
  | file n =>
    rw [hq] at h1 h2
    exact .inr ⟨n, h1, h2⟩
section
variable {σ : Type} (rd : σ → ByteArray → List UInt8 × σ) (out : σ → List UInt8 → Int × σ) (okR : σ → ByteArray → Prop) (okO : σ → List UInt8 → Prop)
def stepQ : QI → σ → Int × σ
  | .text b, s => out s (b ++ [10])
  | .file n, s => if (rd s n).1 = [] then (0, (rd s n).2) else out (rd s n).2 (rd s n).1
def flushQ : List QI → σ → Int × σ
  | [], s => (0, s)
  | q :: l, s => if (stepQ rd out q s).1 ≠ 0 then stepQ rd out q s else flushQ l (stepQ rd out q s).2
def fitQ : QI → σ → Prop
  | .text b, s => b.length ≤ 1099511627776 ∧ okO s (b ++ [10])
  | .file n, s => okR s n ∧ ((rd s n).1 ≠ [] → okO (rd s n).2 (rd s n).1)
def fitsQ : List QI → σ → Prop
  | [], _ => True
  | q :: l, s => fitQ rd okR okO q s ∧ ((stepQ rd out q s).1 = 0 → fitsQ l (stepQ rd out q s).2)
end
section
variable {σ : Type} {rd : σ → ByteArray → List UInt8 × σ} {out : σ → List UInt8 → Int × σ} {okR : σ → ByteArray → Prop} {okO : σ → List UInt8 → Prop} {l r : List QI} {s : σ} {b : List UInt8} {n : ByteArray} {x : List UInt8}
theorem flush_text : flushQ rd out (.text b :: r) s = if (out s (b ++ [10])).1 ≠ 0 then out s (b ++ [10]) else flushQ rd out r (out s (b ++ [10])).2 := rfl
theorem fits_text (h : l = .text b :: r) (hx : x = b) (hf : fitsQ rd out okR okO l s) : x.length ≤ 1099511627776 ∧ okO s (x ++ [10]) ∧ ((out s (x ++ [10])).1 = 0 → fitsQ rd out okR okO r (out s (x ++ [10])).2) := by
  subst h; subst hx
  exact ⟨hf.1.1, hf.1.2, hf.2⟩
theorem fits_fileR (h : l = .file n :: r) (hf : fitsQ rd out okR okO l s) : okR s n := by
  subst h; exact hf.1.1
theorem nil_of (h : ((rd s n).1.length : Int) = 0) : (rd s n).1 = [] := List.eq_nil_of_length_eq_zero (by omega)
theorem ne_of (h : ¬ ((rd s n).1.length : Int) = 0) : (rd s n).1 ≠ [] := fun e => h (by rw [e]; rfl)
theorem fits_file0 (h : l = .file n :: r) (h0 : ((rd s n).1.length : Int) = 0) (hf : fitsQ rd out okR okO l s) : fitsQ rd out okR okO r (rd s n).2 := by
  subst h
  have := hf.2
  simp only [stepQ, if_pos (nil_of h0)] at this
  exact this trivial
theorem flush_file0 (h0 : ((rd s n).1.length : Int) = 0) : flushQ rd out (.file n :: r) s = flushQ rd out r (rd s n).2 := by
  simp only [flushQ, stepQ, if_pos (nil_of h0), ne_eq, not_true_eq_false, if_false]
theorem flush_file (h0 : ¬ ((rd s n).1.length : Int) = 0) : flushQ rd out (.file n :: r) s = if (out (rd s n).2 (rd s n).1).1 ≠ 0 then out (rd s n).2 (rd s n).1 else flushQ rd out r (out (rd s n).2 (rd s n).1).2 := by
  simp only [flushQ, stepQ, if_neg (ne_of h0)]
theorem fits_file (h : l = .file n :: r) (h0 : ¬ ((rd s n).1.length : Int) = 0) (hf : fitsQ rd out okR okO l s) : okO (rd s n).2 (rd s n).1 ∧ ((out (rd s n).2 (rd s n).1).1 = 0 → fitsQ rd out okR okO r (out (rd s n).2 (rd s n).1).2) := by
  subst h
  have h2 := hf.2
  simp only [stepQ, if_neg (ne_of h0)] at h2
  exact ⟨hf.1.2 (ne_of h0), h2⟩
end
end Go.Proofs.YtmmajabfmhipeaaDoor
namespace Go.Proofs.YtmmajabfmhipeaaDoor
open Go Go.HL Go.Proofs
theorem qflush_fn {σ : Type} (rd : σ → ByteArray → List UInt8 × σ) (out : σ → List UInt8 → Int × σ) (okR : σ → ByteArray → Prop) (okO : σ → List UInt8 → Prop) (HS : σ → Hp → Prop) (fR fO : FuncId) (us cs us2 cs2 : List Value)
    (hR : ∀ s S n, HS s S → okR s n → HL.Fn Tryd.prog fR (us ++ [.string n] ++ cs) (fun _ => True) S (fun v S' => ∃ a c b, v = .slice a b.length c ∧ RdS Eb (.slice a b.length c) b S' ∧ (b = (rd s n).1 ∧ HS (rd s n).2 S')))
    (hO : ∀ s S b Sb a c, HS s S → OwnS Eb 1 5 (.slice a b.length c) b Sb → okO s b → HL.Fn Tryd.prog fO (us2 ++ [.slice a b.length c] ++ cs2) (fun _ => True) (S ++ Sb) (fun v S' => v = .int .i64 (out s b).1 ∧ HS (out s b).2 S'))
    (bq : Nat) (qa : Option Addr) (qc : Nat) (ql : List IV) (So Si Sx : Hp) (hq : OwnS Eiv 1 135 (.slice qa ql.length qc) ql So) (l : List QI) (hl : Items ql l Si) (s0 : σ) (h0 : HS s0 ((bq, .cells [.bool true, .slice none 0 0].toArray 109 (0, 0)) :: Sx)) (hf : fitsQ rd out okR okO l s0) : HL.Fn Tryd.prog 48 [.pointer (some ⟨bq, 0, none⟩), .func (.func fR) us.toArray cs.toArray, .func (.func fO) us2.toArray cs2.toArray] (fun _ => True) ((bq, .cells [.bool true, .slice qa ql.length qc].toArray 109 (0, 0)) :: (So ++ (Si ++ Sx))) (fun v S' => v = .int .i64 (flushQ rd out l s0).1 ∧ HS (flushQ rd out l s0).2 S') := by
  refine fn_of Tryd.func48 rfl rfl rfl fun w0 hw => ?_
  have hsq := hq.sl
  have hbq := hsq.le
  refine c_seq fun _ hK1 => ?_
  refine c_region ?_
  refine o_step rfl (s_assign rfl) ?_
  refine o_nil ?_
  refine x_then (hK1 _ _ ?_)
  refine c_seq fun _ hK2 => ?_
  refine c_seq fun _ hK3 => ?_
  refine c_region ?_
  refine o_step rfl (s_move rfl) ?_
  refine o_step rfl (step_cast (v' := .bool false) (s_eql_nilp rfl rfl) rfl) ?_
  refine o_step rfl (s_move rfl) ?_
  refine o_yes rfl rfl ?_
  refine o_step rfl (s_move rfl) ?_
  refine o_yes rfl rfl ?_
  refine o_step rfl (s_nil rfl) ?_
  refine o_yes rfl rfl ?_
  refine o_step rfl (s_field rfl rfl (by decide)) ?_
  refine o_yes rfl rfl ?_
  refine o_step rfl (s_ld rfl (.own meA rfl)) ?_
  refine o_yes rfl rfl ?_
  refine o_step rfl (s_not rfl) ?_
  refine o_step rfl (s_pick_f rfl rfl) ?_
  refine o_nil ?_
  refine x_then (hK3 _ _ ?_)
  refine c_false rfl ?_
  refine c_skip ?_
  refine x_then (hK2 _ _ ?_)
  refine c_seq fun _ hK4 => ?_
  refine c_region ?_
  refine o_step rfl (s_move rfl) ?_
  refine o_step rfl (s_nil rfl) ?_
  refine o_step rfl (s_field rfl rfl (by decide)) ?_
  refine o_step rfl (s_ld rfl (.own meA rfl)) ?_
  refine o_step rfl (s_assign rfl) ?_
  refine o_nil ?_
  refine x_then (hK4 _ _ ?_)
  refine c_seq fun _ hK5 => ?_
  refine c_region ?_
  refine o_step rfl (s_move rfl) ?_
  refine o_step rfl (s_nil rfl) ?_
  refine o_step rfl (s_field rfl rfl (by decide)) ?_
  refine o_store rfl rfl rfl upA (by first | decide | omega | (simp; done) | (simp; omega)) rfl ?_
  refine o_nil ?_
  refine x_then (hK5 _ _ ?_)
  refine c_seq fun _ hK6 => ?_
  refine c_seq fun _ hK7 => ?_
  refine c_region ?_
  refine o_step rfl (s_move rfl) ?_
  refine o_step rfl (s_len rfl) ?_
  refine o_step rfl (s_move rfl) ?_
  refine o_nil ?_
  refine x_then (hK7 _ _ ?_)
  refine c_block ?_
  -- not carried: 6
  refine c_loop3 (fun (j : Nat) (s : σ) (S : Hp) => j ≤ ql.length ∧ HS s S ∧ fitsQ rd out okR okO (l.drop j) s ∧ flushQ rd out l s0 = flushQ rd out (l.drop j) s) (fun (j : Nat) (s : σ) (S : Hp) => [(32, .int .i64 j)]) [(1, _), (2, _), (30, _), (31, _)] (fun (j : Nat) (s : σ) (S : Hp) => So ++ (Si ++ S)) (fun (j : Nat) (s : σ) (S : Hp) => ql.length - j) 0 s0 _ ⟨by omega, h0, hf, rfl⟩ sbA sbA hzB ?_
  rintro j s S ⟨hj, hH, hft, hfq⟩
  refine c_seq fun _ hK8 => ?_
  refine c_region ?_
  refine o_step rfl (s_lss rfl rfl) ?_
  refine o_nil ?_
  refine x_then (hK8 _ _ ?_)
  refine c_seq fun _ hK9 => ?_
  refine c_if rfl (fun hlt => ?_) (fun hlt => ?_)
  · skip
    have hcase := hl.at (j := j) (by omega)
    rcases hcase with ⟨x, b, hx, hbx, hrx, hdr⟩ | ⟨n, hx, hdr⟩
    · skip
      subst hbx
      refine c_skip ?_
      refine x_then (hK9 _ _ ?_)
      refine c_seq fun _ hK10 => ?_
      refine c_block ?_
      refine c_seq fun _ hK11 => ?_
      refine c_region ?_
      refine o_step rfl (s_idx rfl rfl (by assumption) (by omega)) ?_
      refine o_step rfl (step_cast (v' := .iface 141 x.v) (s_ld rfl ((hq.rdk hiA).ld j 0 (iv0_get (by omega)) rfl (by decide) (by omega))) (by rw [hx])) ?_
      refine o_step rfl (s_assign rfl) ?_
      refine o_nil ?_
      refine x_then (hK11 _ _ ?_)
      refine c_seq fun _ hK12 => ?_
      refine c_region ?_
      refine o_step rfl (s_move rfl) ?_
      refine o_step rfl (s_move rfl) ?_
      refine o_invoke (saysText_fn x.a x.c x.xs _ (fits_text hdr rfl hft).1) rfl rfl rfl (by exact .nil) (fun w st => (hrx.rdk hiA).out w st) (fun v38 S38 ⟨a38, c38, hv38, hS38⟩ => ?_)
      subst hv38
      refine o_step rfl (s_assign rfl) ?_
      refine o_nil ?_
      refine x_then (hK12 _ _ ?_)
      refine c_seq fun _ hK13 => ?_
      refine c_seq fun _ hK14 => ?_
      refine c_region ?_
      refine o_step rfl (s_move rfl) ?_
      refine o_step rfl (s_tassert_f ta141 rfl) ?_
      refine o_step rfl (s_move rfl) ?_
      refine o_step rfl (s_extract rfl rfl) ?_
      refine o_step rfl (s_extract rfl rfl) ?_
      refine o_step rfl (s_assign rfl) ?_
      refine o_step rfl (s_assign rfl) ?_
      refine o_nil ?_
      refine x_then (hK14 _ _ ?_)
      refine c_seq fun _ hK15 => ?_
      refine c_region ?_
      refine o_step rfl (s_move rfl) ?_
      refine o_step rfl (s_move rfl) ?_
      refine o_no rfl rfl rfl rfl ?_
      refine o_no rfl rfl rfl rfl ?_
      refine o_no rfl rfl rfl rfl ?_
      refine o_step rfl (s_pick_f rfl rfl) ?_
      refine o_nil ?_
      refine x_then (hK15 _ _ ?_)
      refine c_false rfl ?_
      refine c_skip ?_
      refine x_then (hK13 _ _ ?_)
      refine c_seq fun _ hK16 => ?_
      refine c_region ?_
      refine o_step rfl (s_move rfl) ?_
      refine o_step rfl (s_move rfl) ?_
      refine o_callC (us := us2) (vs := [_]) (cs := cs2) (hO s S (x.xs ++ [10]) S38 a38 c38 hH hS38 (fits_text hdr rfl hft).2.1) rfl rfl rfl ((Pick.takeA pkA pkA)) (fun _ _ => trivial) (fun v52 S52 ⟨hv52, hS52⟩ => ?_)
      subst hv52
      refine o_step rfl (s_assign rfl) ?_
      refine o_nil ?_
      refine x_then (hK16 _ _ ?_)
      refine c_seq fun _ hK17 => ?_
      refine c_region ?_
      refine o_step rfl (s_move rfl) ?_
      refine o_step rfl (s_neq rfl rfl) ?_
      refine o_nil ?_
      refine x_then (hK17 _ _ ?_)
      refine c_if rfl (fun hne => ?_) (fun hne => ?_)
      · skip
        refine c_seq fun _ hK18 => ?_
        refine c_region ?_
        refine o_step rfl (s_move rfl) ?_
        refine o_step rfl (s_assign rfl) ?_
        refine o_nil ?_
        refine x_then (hK18 _ _ ?_)
        refine c_ret ?_
        refine x_block_ret (x_then_ret (x_then_ret (x_block_ret (x_then_ret (?_)))))
        refine x_sub (Sub.refl _) (H' := S52) hzB ?_
        exact x_ret rfl (.tmp rfl (.nil)) (⟨by rw [hfq, hdr, flush_text, if_pos hne]; rfl, by rw [hfq, hdr, flush_text, if_pos hne]; exact hS52⟩)
      · skip
        refine c_skip ?_
        refine x_block ?_
        refine x_then (hK10 _ _ ?_)
        refine c_region ?_
        refine o_step rfl (s_add rfl rfl (by omega)) ?_
        refine o_step rfl (s_move rfl) ?_
        refine o_nil ?_
        exact x_then (x_inv (j + 1, _, _) ⟨by omega, hS52, (fits_text hdr rfl hft).2.2 (Decidable.not_not.1 hne), by rw [hfq, hdr, flush_text, if_neg hne]⟩ (by first | omega | (dsimp only; omega)) sbA hzB)
    · skip
      refine c_skip ?_
      refine x_then (hK9 _ _ ?_)
      refine c_seq fun _ hK19 => ?_
      refine c_block ?_
      refine c_seq fun _ hK20 => ?_
      refine c_region ?_
      refine o_step rfl (s_idx rfl rfl (by assumption) (by omega)) ?_
      refine o_step rfl (step_cast (v' := .iface 133 (.string n)) (s_ld rfl ((hq.rdk hiA).ld j 0 (iv0_get (by omega)) rfl (by decide) (by omega))) (by rw [hx])) ?_
      refine o_step rfl (s_assign rfl) ?_
      refine o_nil ?_
      refine x_then (hK20 _ _ ?_)
      refine c_seq fun _ hK21 => ?_
      refine c_region ?_
      refine o_step rfl (s_move rfl) ?_
      refine o_step rfl (s_move rfl) ?_
      refine o_invoke (saysFile_fn fR us cs n S _ (hR s S n hH (fits_fileR hdr hft))) rfl rfl rfl (pkA) (fun _ _ => trivial) (fun v38 S38 ⟨a38, c38, b38, Sb38, S2, hv38, hS38, hown, hb38, hH2⟩ => ?_)
      subst hv38
      subst hS38
      subst hb38
      refine o_sk (H' := Sb38 ++ (S2 ++ (So ++ Si))) (HSub.of_perm (by simp)) ?_
      refine o_step rfl (s_assign rfl) ?_
      refine o_nil ?_
      refine x_then (hK21 _ _ ?_)
      refine c_seq fun _ hK22 => ?_
      refine c_seq fun _ hK23 => ?_
      refine c_region ?_
      refine o_step rfl (s_move rfl) ?_
      refine o_step rfl (s_tassert_t ta133 rfl) ?_
      refine o_step rfl (s_move rfl) ?_
      refine o_step rfl (s_extract rfl rfl) ?_
      refine o_step rfl (s_extract rfl rfl) ?_
      refine o_step rfl (s_assign rfl) ?_
      refine o_step rfl (s_assign rfl) ?_
      refine o_nil ?_
      refine x_then (hK23 _ _ ?_)
      refine c_seq fun _ hK24 => ?_
      refine c_region ?_
      refine o_step rfl (s_move rfl) ?_
      refine o_step rfl (s_move rfl) ?_
      refine o_yes rfl rfl ?_
      refine o_step rfl (s_move rfl) ?_
      refine o_yes rfl rfl ?_
      refine o_step rfl (s_len rfl) ?_
      refine o_yes rfl rfl ?_
      by_cases hb0 : ((rd s n).1.length : Int) = 0
      · skip
        refine o_step rfl (step_cast (v' := .bool true) (s_eql rfl rfl) (by rw [decide_eq_true hb0])) ?_
        refine o_step rfl (s_pick_t rfl rfl) ?_
        refine o_nil ?_
        refine x_then (hK24 _ _ ?_)
        refine c_true rfl ?_
        refine c_exit ?_
        refine x_then_exit ?_
        refine x_block_exit ?_
        refine x_then (hK19 _ _ ?_)
        refine c_region ?_
        refine o_step rfl (s_add rfl rfl (by omega)) ?_
        refine o_step rfl (s_move rfl) ?_
        refine o_nil ?_
        exact x_then (x_inv (j + 1, _, _) ⟨by omega, hH2, fits_file0 hdr hb0 hft, by rw [hfq, hdr, flush_file0 hb0]⟩ (by first | omega | (dsimp only; omega)) sbA hzB)
      · skip
        refine o_step rfl (step_cast (v' := .bool false) (s_eql rfl rfl) (by rw [decide_eq_false hb0])) ?_
        refine o_step rfl (s_pick_t rfl rfl) ?_
        refine o_nil ?_
        refine x_then (hK24 _ _ ?_)
        refine c_false rfl ?_
        refine c_skip ?_
        refine x_then (hK22 _ _ ?_)
        refine c_seq fun _ hK25 => ?_
        refine c_region ?_
        refine o_step rfl (s_move rfl) ?_
        refine o_step rfl (s_move rfl) ?_
        refine o_callC (us := us2) (vs := [_]) (cs := cs2) (hO _ S2 _ Sb38 a38 c38 hH2 hown (fits_file hdr hb0 hft).1) rfl rfl rfl ((Pick.takeA pkA pkA)) (fun _ _ => trivial) (fun v52 S52 ⟨hv52, hS52⟩ => ?_)
        subst hv52
        refine o_step rfl (s_assign rfl) ?_
        refine o_nil ?_
        refine x_then (hK25 _ _ ?_)
        refine c_seq fun _ hK26 => ?_
        refine c_region ?_
        refine o_step rfl (s_move rfl) ?_
        refine o_step rfl (s_neq rfl rfl) ?_
        refine o_nil ?_
        refine x_then (hK26 _ _ ?_)
        refine c_if rfl (fun hne => ?_) (fun hne => ?_)
        · skip
          refine c_seq fun _ hK27 => ?_
          refine c_region ?_
          refine o_step rfl (s_move rfl) ?_
          refine o_step rfl (s_assign rfl) ?_
          refine o_nil ?_
          refine x_then (hK27 _ _ ?_)
          refine c_ret ?_
          refine x_block_ret (x_then_ret (x_then_ret (x_block_ret (x_then_ret (?_)))))
          refine x_sub (Sub.refl _) (H' := S52) hzB ?_
          exact x_ret rfl (.tmp rfl (.nil)) (⟨by rw [hfq, hdr, flush_file hb0, if_pos hne]; rfl, by rw [hfq, hdr, flush_file hb0, if_pos hne]; exact hS52⟩)
        · skip
          refine c_skip ?_
          refine x_block ?_
          refine x_then (hK19 _ _ ?_)
          refine c_region ?_
          refine o_step rfl (s_add rfl rfl (by omega)) ?_
          refine o_step rfl (s_move rfl) ?_
          refine o_nil ?_
          exact x_then (x_inv (j + 1, _, _) ⟨by omega, hS52, (fits_file hdr hb0 hft).2 (Decidable.not_not.1 hne), by rw [hfq, hdr, flush_file hb0, if_neg hne]⟩ (by first | omega | (dsimp only; omega)) sbA hzB)
  · skip
    have hd0 : l.drop j = [] := List.drop_eq_nil_of_le (by have := hl.len; omega)
    refine c_exit ?_
    refine x_then_exit ?_
    refine x_then_exit ?_
    refine x_block_exit ?_
    refine x_then (hK6 _ _ ?_)
    refine c_seq fun _ hK28 => ?_
    refine c_region ?_
    refine o_step rfl (s_assign rfl) ?_
    refine o_nil ?_
    refine x_then (hK28 _ _ ?_)
    refine c_ret ?_
    refine ?_
    refine x_sub (Sub.refl _) (H' := S) hzB ?_
    exact x_ret rfl (.tmp rfl (.nil)) (⟨by rw [hfq, hd0]; rfl, by rw [hfq, hd0]; exact hH⟩)
theorem text_fn (bq : Nat) (qa : Option Addr) (qc : Nat) (ql : List IV) (So : Hp) (hO : OwnS Eiv 1 135 (.slice qa ql.length qc) ql So) (hle : ql.length ≤ 4294967296) (a : Option Addr) (c : Nat) (xs : List UInt8) : HL.Fn Tryd.prog 54 [.pointer (some ⟨bq, 0, none⟩), .slice a xs.length c] (fun w => Rd Eb w (.slice a xs.length c) xs ∧ Apart (keys ((bq, .cells [.bool true, .slice qa ql.length qc].toArray 109 (0, 0)) :: So)) (.slice a xs.length c)) ((bq, .cells [.bool true, .slice qa ql.length qc].toArray 109 (0, 0)) :: So) (fun v S' => v = .tuple #[] ∧ ∃ qa' qc' a' c' So' Sx, S' = (bq, .cells [.bool true, .slice qa' (ql ++ [(⟨141, .slice a' xs.length c'⟩ : IV)]).length qc'].toArray 109 (0, 0)) :: (So' ++ Sx) ∧ OwnS Eiv 1 135 (.slice qa' (ql ++ [(⟨141, .slice a' xs.length c'⟩ : IV)]).length qc') (ql ++ [(⟨141, .slice a' xs.length c'⟩ : IV)]) So' ∧ OwnS Eb 1 5 (.slice a' xs.length c') xs Sx) := by
  refine fn_of Tryd.func54 rfl rfl rfl fun w0 hw => ?_
  refine c_region ?_
  refine o_step rfl (s_move rfl) ?_
  refine o_step rfl (s_move rfl) ?_
  refine o_call (clone_fn a c xs) rfl rfl rfl (by exact .nil) (fun w st => (RdK.old (κ := ⟨_, [], w0, _⟩) hw.1 hw.2).out w st) (fun v6 S6 ⟨a6, c6, hv6, hS6⟩ => ?_)
  subst hv6
  refine o_step rfl (s_iface (by kernel_rfl) rfl) ?_
  refine o_call (put_raw bq ⟨141, .slice a6 xs.length c6⟩ qa qc ql So hO hle) rfl rfl rfl ((Pick.takeC pkA pkA)) (fun _ _ => trivial) (fun v8 S8 ⟨hv8, qa8, qc8, So8, hS8, hO8⟩ => ?_)
  subst hv8
  subst hS8
  refine o_nil ?_
  refine x_sub (Sub.refl _) (H' := (bq, .cells [.bool true, .slice qa8 (ql ++ [(⟨141, .slice a6 xs.length c6⟩ : IV)]).length qc8].toArray 109 (0, 0)) :: (So8 ++ S6)) hzB ?_
  exact x_end rfl (.nil) (⟨rfl, _, _, _, _, _, _, rfl, hO8, hS6⟩)
theorem file_fn (bq : Nat) (qa : Option Addr) (qc : Nat) (ql : List IV) (So : Hp) (hO : OwnS Eiv 1 135 (.slice qa ql.length qc) ql So) (hle : ql.length ≤ 4294967296) (s : ByteArray) : HL.Fn Tryd.prog 43 [.pointer (some ⟨bq, 0, none⟩), .string s] (fun _ => True) ((bq, .cells [.bool true, .slice qa ql.length qc].toArray 109 (0, 0)) :: So) (fun v S' => v = .tuple #[] ∧ ∃ qa' qc' So', S' = (bq, .cells [.bool true, .slice qa' (ql ++ [(⟨133, .string s⟩ : IV)]).length qc'].toArray 109 (0, 0)) :: So' ∧ OwnS Eiv 1 135 (.slice qa' (ql ++ [(⟨133, .string s⟩ : IV)]).length qc') (ql ++ [(⟨133, .string s⟩ : IV)]) So') := by
  refine fn_of Tryd.func43 rfl rfl rfl fun w0 hw => ?_
  refine c_region ?_
  refine o_step rfl (s_move rfl) ?_
  refine o_step rfl (s_move rfl) ?_
  refine o_step rfl (s_iface (by kernel_rfl) rfl) ?_
  refine o_call (put_raw bq ⟨133, .string s⟩ qa qc ql So hO hle) rfl rfl rfl ((Pick.takeC pkA pkA)) (fun _ _ => trivial) (fun v7 S7 ⟨hv7, qa7, qc7, So7, hS7, hO7⟩ => ?_)
  subst hv7
  subst hS7
  refine o_nil ?_
  refine x_sub (Sub.refl _) (H' := (bq, .cells [.bool true, .slice qa7 (ql ++ [(⟨133, .string s⟩ : IV)]).length qc7].toArray 109 (0, 0)) :: So7) hzB ?_
  exact x_end rfl (.nil) (⟨rfl, _, _, _, rfl, hO7⟩)
theorem livesR_fn (s : ByteArray) (hs : s.size ≤ 1099511627776) : HL.Fn Tryd.prog 55 [.string s] (fun _ => True) [] (fun v S' => ∃ c b, v = .slice (some ⟨b, 0, none⟩) (s ++ s).data.toList.length c ∧ OwnS Eb 1 5 (.slice (some ⟨b, 0, none⟩) (s ++ s).data.toList.length c) (s ++ s).data.toList S') := by
  refine fn_of Tryd.func55 rfl rfl rfl fun w0 hw => ?_
  refine c_seq fun _ hK1 => ?_
  refine c_region ?_
  refine o_step rfl (s_assign rfl) ?_
  refine o_nil ?_
  refine x_then (hK1 _ _ ?_)
  refine c_seq fun _ hK2 => ?_
  refine c_region ?_
  refine o_step rfl (s_move rfl) ?_
  refine o_step rfl (s_move rfl) ?_
  refine o_step rfl (s_addstr rfl rfl (by omega)) ?_
  refine o_str2b rfl rfl (by rw [ByteArray.size_append]; omega) fun b6 c6 S6 hS6 => ?_
  refine o_step rfl (s_assign rfl) ?_
  refine o_nil ?_
  refine x_then (hK2 _ _ ?_)
  refine c_ret ?_
  refine ?_
  refine x_sub (Sub.refl _) (H' := S6) hzB ?_
  exact x_ret rfl (.tmp rfl (.nil)) (⟨_, _, rfl, hS6⟩)
theorem livesO_fn (bn ba : Nat) (n : Int) (aa : Option Addr) (ca : Nat) (al : List UInt8) (Sa : Hp) (hA : OwnS Eb 1 5 (.slice aa al.length ca) al Sa) (a : Option Addr) (c : Nat) (xs : List UInt8) (hn : 0 ≤ n ∧ n ≤ 1000) (hl : al.length + xs.length ≤ 1099511627776) : HL.Fn Tryd.prog 56 [.slice a xs.length c, .pointer (some ⟨bn, 0, none⟩), .pointer (some ⟨ba, 0, none⟩)] (fun w => Rd Eb w (.slice a xs.length c) xs ∧ Apart (keys ((bn, .cells [.int .i64 n].toArray 3 (0, 0)) :: (ba, .cells [.slice aa al.length ca].toArray 40 (0, 0)) :: Sa)) (.slice a xs.length c)) ((bn, .cells [.int .i64 n].toArray 3 (0, 0)) :: (ba, .cells [.slice aa al.length ca].toArray 40 (0, 0)) :: Sa) (fun v S' => v = .int .i64 0 ∧ ∃ a' c' Sa', S' = (bn, .cells [.int .i64 (n + 1)].toArray 3 (0, 0)) :: (ba, .cells [.slice a' (al ++ xs).length c'].toArray 40 (0, 0)) :: Sa' ∧ OwnS Eb 1 5 (.slice a' (al ++ xs).length c') (al ++ xs) Sa') := by
  refine fn_of Tryd.func56 rfl rfl rfl fun w0 hw => ?_
  refine c_seq fun _ hK1 => ?_
  refine c_region ?_
  refine o_step rfl (s_assign rfl) ?_
  refine o_nil ?_
  refine x_then (hK1 _ _ ?_)
  refine c_seq fun _ hK2 => ?_
  refine c_region ?_
  refine o_step rfl (s_ld rfl (.own meA rfl)) ?_
  refine o_step rfl (s_add rfl rfl (by omega)) ?_
  refine o_store rfl rfl rfl upA (by first | decide | omega | (simp; done) | (simp; omega)) rfl ?_
  refine o_nil ?_
  refine x_then (hK2 _ _ ?_)
  refine c_seq fun _ hK3 => ?_
  refine c_region ?_
  refine o_step rfl (s_ld rfl (.own meA rfl)) ?_
  refine o_step rfl (s_move rfl) ?_
  refine o_app hA (RdK.old hw.1 hw.2) rfl rfl rfl rfl (by omega) (by omega) rfl pkA fun a9 c9 S9 hS9 => ?_
  refine o_store rfl rfl rfl upA (by first | decide | omega | (simp; done) | (simp; omega)) rfl ?_
  refine o_nil ?_
  refine x_then (hK3 _ _ ?_)
  refine c_seq fun _ hK4 => ?_
  refine c_region ?_
  refine o_step rfl (s_assign rfl) ?_
  refine o_nil ?_
  refine x_then (hK4 _ _ ?_)
  refine c_ret ?_
  refine ?_
  refine x_sub (Sub.refl _) (H' := (bn, .cells [.int .i64 (n + 1)].toArray 3 (0, 0)) :: (ba, .cells [.slice a9 (al ++ xs).length c9].toArray 40 (0, 0)) :: S9) hzB ?_
  exact x_ret rfl (.tmp rfl (.nil)) (⟨rfl, _, _, _, rfl, hS9⟩)
/-- what lives hands to Flush -/
def lvR (s : Int × List UInt8) (n : ByteArray) : List UInt8 × (Int × List UInt8) := ((n ++ n).data.toList, s)
def lvO (s : Int × List UInt8) (b : List UInt8) : Int × (Int × List UInt8) := (0, (s.1 + 1, s.2 ++ b))
def lvKR (_ : Int × List UInt8) (n : ByteArray) : Prop := n.size ≤ 1099511627776
def lvKO (s : Int × List UInt8) (b : List UInt8) : Prop := 0 ≤ s.1 ∧ s.1 ≤ 1000 ∧ s.2.length + b.length ≤ 1099511627776
theorem lvEnds : flushQ lvR lvO [.text [97], .file ⟨#[102]⟩] (0, []) = (0, (2, [97, 10, 102, 102])) := by decide
theorem lvFits : fitsQ lvR lvO lvKR lvKO [.text [97], .file ⟨#[102]⟩] (0, []) := by
  simp [fitsQ, fitQ, stepQ, lvR, lvO, lvKR, lvKO, ByteArray.size]
theorem items2 {a : Option Addr} {c : Nat} {Sx : Hp} (h : OwnS Eb 1 5 (.slice a [(97 : UInt8)].length c) [97] Sx) : Items ([] ++ [(⟨141, .slice a [(97 : UInt8)].length c⟩ : IV)] ++ [(⟨133, .string ⟨#[102]⟩⟩ : IV)]) [.text [97], .file ⟨#[102]⟩] Sx := by
  refine ⟨rfl, fun j q hj => ?_⟩
  match j, hj with
  | 0, hj => cases hj; exact ⟨⟨a, c, [97]⟩, rfl, rfl, h.rds⟩
  | 1, hj => cases hj; exact rfl
  | j + 2, hj => simp at hj
/-- the queue that lives flushes, what came out: so many calls, these bytes -/
def LvH (bq b2 b3 : Nat) (s : Int × List UInt8) (S : Hp) : Prop := ∃ aa ca Sa Sg, S.Perm ((bq, .cells [.bool true, .slice none 0 0].toArray 109 (0, 0)) :: (b2, .cells [.int .i64 s.1].toArray 3 (0, 0)) :: (b3, .cells [.slice aa s.2.length ca].toArray 40 (0, 0)) :: (Sa ++ Sg)) ∧ OwnS Eb 1 5 (.slice aa s.2.length ca) s.2 Sa
theorem lvR_fn (bq b2 b3 : Nat) (s : Int × List UInt8) (S : Hp) (n : ByteArray) (hs : LvH bq b2 b3 s S) (hk : lvKR s n) :
    HL.Fn Tryd.prog 55 ([] ++ [.string n] ++ []) (fun _ => True) S (fun v S' => ∃ a c b, v = .slice a b.length c ∧ RdS Eb (.slice a b.length c) b S' ∧ (b = (lvR s n).1 ∧ LvH bq b2 b3 (lvR s n).2 S')) := by
  refine ((livesR_fn n hk).frame (R := S)).weaken (fun _ h => h) fun v S' hv => ?_
  obtain ⟨S1, rfl, c, b, rfl, ho⟩ := hv
  refine ⟨_, _, _, rfl, ho.rds.mono HIn.appL, rfl, ?_⟩
  obtain ⟨aa, ca, Sa, Sg, hp, hO⟩ := hs
  refine ⟨aa, ca, Sa, Sg ++ S1, ?_, hO⟩
  refine List.perm_append_comm.trans ?_
  have := hp.append_right S1
  simpa [List.append_assoc, lvR] using this
theorem lvO_fn (bq b2 b3 : Nat) (s : Int × List UInt8) (S : Hp) (b : List UInt8) (Sb : Hp) (a : Option Addr) (c : Nat) (hs : LvH bq b2 b3 s S) (hb : OwnS Eb 1 5 (.slice a b.length c) b Sb) (hk : lvKO s b) :
    HL.Fn Tryd.prog 56 ([] ++ [.slice a b.length c] ++ [.pointer (some ⟨b2, 0, none⟩), .pointer (some ⟨b3, 0, none⟩)]) (fun _ => True) (S ++ Sb) (fun v S' => v = .int .i64 (lvO s b).1 ∧ LvH bq b2 b3 (lvO s b).2 S') := by
  obtain ⟨aa, ca, Sa, Sg, hp, hO⟩ := hs
  have h1 := ((livesO_fn b2 b3 s.1 aa ca s.2 Sa hO a c b ⟨hk.1, hk.2.1⟩ hk.2.2).frame (R := (bq, .cells [.bool true, .slice none 0 0].toArray 109 (0, 0)) :: (Sg ++ Sb)))
  have hpm : (((b2, .cells [.int .i64 s.1].toArray 3 (0, 0)) :: (b3, .cells [.slice aa s.2.length ca].toArray 40 (0, 0)) :: Sa) ++ ((bq, .cells [.bool true, .slice none 0 0].toArray 109 (0, 0)) :: (Sg ++ Sb))).Perm (S ++ Sb) := by
    refine List.Perm.trans ?_ (hp.append_right Sb).symm
    refine List.perm_middle.trans ?_
    simp [List.append_assoc]
  have h2 := h1.has (pre' := fun _ => True) (fun w _ hS => ⟨hb.rd fun x o hm => hS.has x o (by simp; exact .inr (.inr (.inr (.inr (.inr hm))))), Has.apart hS .here hb fun p hm => List.mem_cons_of_mem _ (List.mem_append_right _ hm)⟩)
  refine (h2.perm hpm).weaken (fun _ h => h) fun v S' hv => ?_
  obtain ⟨S1, rfl, rfl, a', c', Sa', rfl, hO'⟩ := hv
  refine ⟨rfl, a', c', Sa', Sg ++ Sb, ?_, hO'⟩
  refine List.perm_middle.trans ?_
  simp [List.append_assoc, lvO]
theorem qlives_fn  : HL.Fn Tryd.prog 10 [] (fun _ => True) [] (fun v _ => v = .bool true) := by
  refine fn_of Tryd.func10 rfl rfl rfl fun w0 hw => ?_
  refine c_seq fun _ hK1 => ?_
  refine c_region ?_
  refine o_step rfl (s_assign rfl) ?_
  refine o_nil ?_
  refine x_then (hK1 _ _ ?_)
  refine c_seq fun _ hK2 => ?_
  refine c_region ?_
  refine o_call (queueNew_fn) rfl rfl rfl (by exact .nil) (fun _ _ => trivial) (fun v8 S8 ⟨bq, hv8, hS8⟩ => ?_)
  subst hv8
  subst hS8
  refine o_step rfl (s_assign rfl) ?_
  refine o_nil ?_
  refine x_then (hK2 _ _ ?_)
  refine c_seq fun _ hK3 => ?_
  refine c_seq fun _ hK4 => ?_
  refine c_region ?_
  refine o_step rfl (s_move rfl) ?_
  refine o_step rfl (step_cast (v' := .bool false) (s_eql_nilp rfl rfl) rfl) ?_
  refine o_nil ?_
  refine x_then (hK4 _ _ ?_)
  refine c_false rfl ?_
  refine c_skip ?_
  refine x_then (hK3 _ _ ?_)
  refine c_seq fun _ hK5 => ?_
  refine c_region ?_
  refine o_step rfl (s_move rfl) ?_
  refine o_bs (E := Eb) (xs := [97]) (vs := [_]) rfl rfl rfl rfl rfl (by decide) (by decide) fun b12 S12 hS12 => ?_
  refine o_conv_same rfl hS12 pkA rfl fun S13 hS13 => ?_
  refine o_call (text_fn bq none 0 [] [] .nil (by decide) _ _ [97]) rfl rfl rfl pkA (fun w st => ⟨(hS13.rdk hiA).out w st, st.apart (S := [_]) pkA hS13 hiA⟩) (fun v14 S14 ⟨hv14, qa14, qc14, a14, c14, So14, Sx14, hS14, hO14, hX14⟩ => ?_)
  subst hv14
  subst hS14
  refine o_nil ?_
  refine x_then (hK5 _ _ ?_)
  refine c_seq fun _ hK6 => ?_
  refine c_region ?_
  refine o_step rfl (s_move rfl) ?_
  refine o_call (file_fn bq qa14 qc14 _ So14 hO14 (by simp) _) rfl rfl rfl ((Pick.takeC pkA pkA)) (fun _ _ => trivial) (fun v16 S16 ⟨hv16, qa16, qc16, So16, hS16, hO16⟩ => ?_)
  subst hv16
  subst hS16
  refine o_nil ?_
  refine x_then (hK6 _ _ ?_)
  refine c_seq fun _ hK7 => ?_
  refine c_region ?_
  refine o_alloc rfl rfl fun b2 => ?_
  refine o_store rfl rfl rfl upA (by first | decide | omega | (simp; done) | (simp; omega)) rfl ?_
  refine o_nil ?_
  refine x_then (hK7 _ _ ?_)
  refine c_seq fun _ hK8 => ?_
  refine c_region ?_
  refine o_alloc rfl rfl fun b3 => ?_
  refine o_nil ?_
  refine x_then (hK8 _ _ ?_)
  refine c_seq fun _ hK9 => ?_
  refine c_region ?_
  refine o_step rfl (s_assign rfl) ?_
  refine o_nil ?_
  refine x_then (hK9 _ _ ?_)
  refine c_seq fun _ hK10 => ?_
  refine c_region ?_
  refine o_step rfl (s_func (us := []) (vs := [_, _]) rfl rfl) ?_
  refine o_step rfl (s_assign rfl) ?_
  refine o_nil ?_
  refine x_then (hK10 _ _ ?_)
  refine c_seq fun _ hK11 => ?_
  refine c_region ?_
  refine o_step rfl (s_move rfl) ?_
  refine o_step rfl (s_move rfl) ?_
  refine o_step rfl (s_move rfl) ?_
  refine o_call (qflush_fn lvR lvO lvKR lvKO (LvH bq b2 b3) 55 56 [] [] [] [.pointer (some ⟨b2, 0, none⟩), .pointer (some ⟨b3, 0, none⟩)] (fun s S n => lvR_fn bq b2 b3 s S n) (fun s S b Sb a c => lvO_fn bq b2 b3 s S b Sb a c) bq qa16 qc16 ([] ++ [(⟨141, .slice a14 [(97 : UInt8)].length c14⟩ : IV)] ++ [(⟨133, .string ⟨#[102]⟩⟩ : IV)]) So16 Sx14 [(b2, .cells [.int .i64 0].toArray 3 (0, 0)), (b3, .cells [.slice none 0 0].toArray 40 (0, 0))] hO16 [.text [97], .file ⟨#[102]⟩] (items2 hX14) (0, []) ⟨none, 0, [], [], .refl _, .nil⟩ lvFits) rfl rfl rfl ((Pick.takeC pkA (Pick.takeA pkA (Pick.takeA pkA (Pick.takeC pkA pkA))))) (fun _ _ => trivial) (fun v21 S21 ⟨hv21, hH21⟩ => ?_)
  rw [lvEnds] at hv21 hH21
  subst hv21
  obtain ⟨aa1, ca1, Sa1, Sg1, hp21, hO21⟩ := hH21
  refine o_sk (HSub.trans (HSub.of_pick (A := S21) pkA) (HSub.of_perm hp21)) ?_
  refine o_step rfl (s_assign rfl) ?_
  refine o_nil ?_
  refine x_then (hK11 _ _ ?_)
  refine c_seq fun _ hK12 => ?_
  refine c_region ?_
  refine o_step rfl (s_move rfl) ?_
  refine o_step rfl (s_move rfl) ?_
  refine o_step rfl (s_move rfl) ?_
  refine o_call (qflush_fn lvR lvO lvKR lvKO (LvH bq b2 b3) 55 56 [] [] [] [.pointer (some ⟨b2, 0, none⟩), .pointer (some ⟨b3, 0, none⟩)] (fun s S n => lvR_fn bq b2 b3 s S n) (fun s S b Sb a c => lvO_fn bq b2 b3 s S b Sb a c) bq none 0 [] [] [] ((b2, .cells [.int .i64 2].toArray 3 (0, 0)) :: (b3, .cells [.slice aa1 [97, 10, 102, 102].length ca1].toArray 40 (0, 0)) :: (Sa1 ++ Sg1)) .nil [] ⟨rfl, fun j q h => by simp at h⟩ (2, [97, 10, 102, 102]) ⟨aa1, ca1, Sa1, Sg1, .refl _, hO21⟩ trivial) rfl rfl rfl ((Pick.takeC pkA pkA)) (fun _ _ => trivial) (fun v25 S25 ⟨hv25, hH25⟩ => ?_)
  change v25 = .int .i64 0 at hv25
  change LvH bq b2 b3 (2, [97, 10, 102, 102]) S25 at hH25
  subst hv25
  obtain ⟨aa2, ca2, Sa2, Sg2, hp25, hO25⟩ := hH25
  refine o_sk (HSub.trans (HSub.of_pick (A := S25) pkA) (HSub.of_perm hp25)) ?_
  refine o_step rfl (s_assign rfl) ?_
  refine o_nil ?_
  refine x_then (hK12 _ _ ?_)
  refine c_seq fun _ hK13 => ?_
  refine c_region ?_
  refine o_step rfl (s_move rfl) ?_
  refine o_step rfl (s_eql_t rfl rfl (by omega)) ?_
  refine o_step rfl (s_move rfl) ?_
  refine o_yes rfl rfl ?_
  refine o_step rfl (s_move rfl) ?_
  refine o_yes rfl rfl ?_
  refine o_step rfl (s_eql_t rfl rfl (by omega)) ?_
  refine o_step rfl (s_pick_t rfl rfl) ?_
  refine o_step rfl (s_move rfl) ?_
  refine o_yes rfl rfl ?_
  refine o_step rfl (s_ld rfl (.own meA rfl)) ?_
  refine o_yes rfl rfl ?_
  refine o_step rfl (s_eql_t rfl rfl (by omega)) ?_
  refine o_step rfl (s_pick_t rfl rfl) ?_
  refine o_step rfl (s_move rfl) ?_
  refine o_yes rfl rfl ?_
  refine o_step rfl (s_ld rfl (.own meA rfl)) ?_
  refine o_yes rfl rfl ?_
  refine o_step rfl (s_b2str rfl (hO25.rdk hiA) rfl) ?_
  refine o_yes rfl rfl ?_
  refine o_step rfl (step_cast (v' := .bool true) (s_eql_str rfl rfl) (congrArg Value.bool (decide_eq_true rfl))) ?_
  refine o_step rfl (s_pick_t rfl rfl) ?_
  refine o_step rfl (s_move rfl) ?_
  refine o_yes rfl rfl ?_
  refine o_step rfl (s_move rfl) ?_
  refine o_yes rfl rfl ?_
  refine o_callP (len_fn bq (.bool true) none 0 0) rfl rfl rfl (fun w st => (RdPK.own meA).out w st) (fun v43 hv43 => ?_)
  subst hv43
  refine o_yes rfl rfl ?_
  refine o_step rfl (s_eql_t rfl rfl (by omega)) ?_
  refine o_step rfl (s_pick_t rfl rfl) ?_
  refine o_step rfl (s_assign rfl) ?_
  refine o_nil ?_
  refine x_then (hK13 _ _ ?_)
  refine c_ret ?_
  refine ?_
  exact x_ret rfl (.tmp rfl (.nil)) (rfl)
theorem gd_get {α : Type} {l : List α} {d : α} {j : Nat} (h : j < l.length) : l[j]? = some (l.getD j d) := by simp [List.getD, List.getElem?_eq_getElem h]
theorem gd_mem {α : Type} {l : List α} {d : α} {j : Nat} (h : j < l.length) : l.getD j d ∈ l := by simp [List.getD, List.getElem?_eq_getElem h]
theorem gd_take {α : Type} {l : List α} {d : α} {j : Nat} (h : j < l.length) : l.take (j + 1) = l.take j ++ [l.getD j d] := by
  rw [List.take_add_one, gd_get h (d := d)]; rfl
theorem gd_drop {α : Type} {l : List α} {d : α} {j : Nat} (h : j < l.length) : l.drop j = l.getD j d :: l.drop (j + 1) := by
  rw [List.drop_eq_getElem_cons h]; simp [List.getD, List.getElem?_eq_getElem h]
/-- a file of a world; a call that was noted, as it lies there, and what it says -/
structure FileV where
  n : ByteArray
  b : Sl UInt8
def Efile (f : FileV) : List Value := [.string f.n, f.b.v, .int .i64 0]
instance : Enc Efile 3 := ⟨fun _ => rfl, fun _ _ h => by simp [Efile] at h; rcases h with rfl | rfl | rfl <;> rfl⟩
structure CallV where
  k : Int
  n : ByteArray
  b : Sl UInt8
def Ecall (c : CallV) : List Value := [.int .i64 c.k, .string c.n, c.b.v]
instance : Enc Ecall 3 := ⟨fun _ => rfl, fun _ _ h => by simp [Ecall] at h; rcases h with rfl | rfl | rfl <;> rfl⟩
structure CA where
  k : Int
  n : ByteArray
  b : List UInt8
def CallV.abs (c : CallV) : CA := ⟨c.k, c.n, c.b.xs⟩
def fz : FileV := ⟨⟨#[]⟩, ⟨none, 0, []⟩⟩
def cz : CallV := ⟨0, ⟨#[]⟩, ⟨none, 0, []⟩⟩
/-- a step of a script -/
structure OpQ where
  k : Int
  b : Sl UInt8
  n : ByteArray
  fail : Int
  err : Int
  during : Int
def Eopq (o : OpQ) : List Value := [.int .i64 o.k, o.b.v, .string o.n, .int .i64 o.fail, .int .i64 o.err, .int .i64 o.during]
instance : Enc Eopq 6 := ⟨fun _ => rfl, fun _ _ h => by simp [Eopq] at h; rcases h with rfl | rfl | rfl | rfl | rfl | rfl <;> rfl⟩
def oz : OpQ := ⟨0, ⟨none, 0, []⟩, ⟨#[]⟩, 0, 0, 0⟩
/-- what calls hold lies in a part of the heap -/
structure CallsIn (cl : List CallV) (l : List CA) (S : Hp) : Prop where
  abs : cl.map CallV.abs = l
  rd : ∀ c ∈ cl, RdS Eb c.b.v c.b.xs S
theorem CallsIn.len {cl : List CallV} {l : List CA} {S : Hp} (h : CallsIn cl l S) : cl.length = l.length := by rw [← h.abs, List.length_map]
theorem CallsIn.nil {S : Hp} : CallsIn [] [] S := ⟨rfl, fun _ h => by simp at h⟩
theorem CallsIn.mono {cl : List CallV} {l : List CA} {S S' : Hp} (h : CallsIn cl l S) (hs : HIn S S') : CallsIn cl l S' := ⟨h.abs, fun c hc => (h.rd c hc).mono hs⟩
theorem CallsIn.snoc {cl : List CallV} {l : List CA} {S Sx : Hp} {k : Int} {n : ByteArray} {a : Option Addr} {c : Nat} {b : List UInt8} (h : CallsIn cl l S) (ho : OwnS Eb 1 5 (.slice a b.length c) b Sx) :
    CallsIn (cl ++ [⟨k, n, ⟨a, c, b⟩⟩]) (l ++ [⟨k, n, b⟩]) (Sx ++ S) := by
  refine ⟨by simp [h.abs, CallV.abs], fun x hx => ?_⟩
  rcases List.mem_append.1 hx with hx | hx
  · exact (h.rd x hx).mono HIn.appR
  · have e := List.mem_singleton.1 hx
    subst e
    exact (ho.rds).mono HIn.appL
/-- the last file of a name -/
def look (fs : List FileV) (n : ByteArray) : List UInt8 := ((fs.reverse.find? fun f => decide (f.n = n)).map fun f => f.b.xs).getD []
theorem look_nil (n : ByteArray) : look [] n = [] := rfl
theorem look_snoc (fs : List FileV) (f : FileV) (n : ByteArray) : look (fs ++ [f]) n = if f.n = n then f.b.xs else look fs n := by
  simp only [look, List.reverse_append, List.reverse_cons, List.reverse_nil, List.nil_append, List.singleton_append, List.find?_cons]
  by_cases h : f.n = n <;> simp [h]
theorem look_take {fs : List FileV} {n : ByteArray} {j : Nat} (h : j < fs.length) : look (fs.take (j + 1)) n = if (fs.getD j fz).n = n then (fs.getD j fz).b.xs else look (fs.take j) n := by
  rw [gd_take h (d := fz), look_snoc]
theorem look_len {fs : List FileV} {n : ByteArray} {m : Nat} (h : ∀ f ∈ fs, f.b.xs.length ≤ m) : (look fs n).length ≤ m := by
  unfold look
  cases hf : fs.reverse.find? fun f => decide (f.n = n) with
  | none => simp
  | some f => exact h f (List.mem_reverse.1 (List.mem_of_find?_eq_some hf))
/-- what a script puts: the files, the things that wait -/
def filesOf : List OpQ → List FileV
  | [] => []
  | o :: l => if o.k = 1 then ⟨o.n, o.b⟩ :: filesOf l else filesOf l
def thingsOf : List OpQ → List QI
  | [] => []
  | o :: l => if o.k = 0 then .text o.b.xs :: thingsOf l else if o.k = 1 then .file o.n :: thingsOf l else thingsOf l
theorem filesOf_app (l r : List OpQ) : filesOf (l ++ r) = filesOf l ++ filesOf r := by
  induction l with
  | nil => rfl
  | cons o l ih => simp only [List.cons_append, filesOf, ih]; split <;> rfl
theorem thingsOf_app (l r : List OpQ) : thingsOf (l ++ r) = thingsOf l ++ thingsOf r := by
  induction l with
  | nil => rfl
  | cons o l ih =>
    simp only [List.cons_append, thingsOf, ih]
    split
    · rfl
    · split <;> rfl
theorem filesOf_take {l : List OpQ} {j : Nat} (h : j < l.length) : filesOf (l.take (j + 1)) = filesOf (l.take j) ++ (if (l.getD j oz).k = 1 then [⟨(l.getD j oz).n, (l.getD j oz).b⟩] else []) := by
  rw [gd_take h (d := oz), filesOf_app]; simp only [filesOf]
theorem thingsOf_take {l : List OpQ} {j : Nat} (h : j < l.length) : thingsOf (l.take (j + 1)) = thingsOf (l.take j) ++ (if (l.getD j oz).k = 0 then [.text (l.getD j oz).b.xs] else if (l.getD j oz).k = 1 then [.file (l.getD j oz).n] else []) := by
  rw [gd_take h (d := oz), thingsOf_app]; simp only [thingsOf]
theorem filesOf_len (l : List OpQ) : (filesOf l).length ≤ l.length := by
  induction l with
  | nil => simp [filesOf]
  | cons o l ih => simp only [filesOf]; split <;> simp <;> omega
theorem thingsOf_len (l : List OpQ) : (thingsOf l).length ≤ l.length := by
  induction l with
  | nil => simp [thingsOf]
  | cons o l ih => simp only [thingsOf]; split; (simp; omega); split <;> simp <;> omega
theorem filesOf_mem {l : List OpQ} {f : FileV} (h : f ∈ filesOf l) : ∃ o ∈ l, f = ⟨o.n, o.b⟩ := by
  induction l with
  | nil => simp [filesOf] at h
  | cons o l ih =>
    simp only [filesOf] at h
    split at h
    · rcases List.mem_cons.1 h with h | h
      · exact ⟨o, List.mem_cons_self, h⟩
      · obtain ⟨o', h1, h2⟩ := ih h
        exact ⟨o', List.mem_cons_of_mem _ h1, h2⟩
    · obtain ⟨o', h1, h2⟩ := ih h
      exact ⟨o', List.mem_cons_of_mem _ h1, h2⟩
theorem thingsOf_mem {l : List OpQ} {b : List UInt8} (h : QI.text b ∈ thingsOf l) : ∃ o ∈ l, b = o.b.xs := by
  induction l with
  | nil => simp [thingsOf] at h
  | cons o l ih =>
    simp only [thingsOf] at h
    split at h
    · rcases List.mem_cons.1 h with h | h
      · exact ⟨o, List.mem_cons_self, by cases h; rfl⟩
      · obtain ⟨o', h1, h2⟩ := ih h
        exact ⟨o', List.mem_cons_of_mem _ h1, h2⟩
    · split at h
      · rcases List.mem_cons.1 h with h | h
        · cases h
        · obtain ⟨o', h1, h2⟩ := ih h
          exact ⟨o', List.mem_cons_of_mem _ h1, h2⟩
      · obtain ⟨o', h1, h2⟩ := ih h
        exact ⟨o', List.mem_cons_of_mem _ h1, h2⟩
theorem ItemOk.mono {S S' : Hp} {x : IV} : ∀ {q : QI}, ItemOk S x q → HIn S S' → ItemOk S' x q
  | .text _, ⟨s, h1, h2, h3⟩, hs => ⟨s, h1, h2, h3.mono hs⟩
  | .file _, h, _ => h
theorem Items.snoc {ql : List IV} {l : List QI} {S S' : Hp} {x : IV} {q : QI} (h : Items ql l S) (hs : HIn S S') (hx : ItemOk S' x q) : Items (ql ++ [x]) (l ++ [q]) S' := by
  have hl := h.len
  refine ⟨by simp [hl], fun j r hj => ?_⟩
  by_cases h1 : j < l.length
  · rw [List.getElem?_append_left h1] at hj
    have e : iv0 (ql ++ [x]) j = iv0 ql j := by simp [iv0, List.getD, List.getElem?_append_left (by omega : j < ql.length)]
    rw [e]
    exact (h.ok j r hj).mono hs
  · rw [List.getElem?_append_right (by omega)] at hj
    have h2 : j - l.length = 0 := by
      rcases Nat.lt_or_ge (j - l.length) 1 with h3 | h3
      · omega
      · rw [List.getElem?_eq_none (by simpa using h3)] at hj; cases hj
    rw [h2] at hj
    simp only [List.getElem?_cons_zero, Option.some.injEq] at hj
    subst hj
    have e : iv0 (ql ++ [x]) j = x := by simp [iv0, List.getD, List.getElem?_append_right (by omega : ql.length ≤ j), show j - ql.length = 0 by omega]
    rw [e]; exact hx
theorem Items.text {ql : List IV} {l : List QI} {S Sx : Hp} {a : Option Addr} {c : Nat} {xs : List UInt8} (h : Items ql l S) (ho : OwnS Eb 1 5 (.slice a xs.length c) xs Sx) : Items (ql ++ [⟨141, .slice a xs.length c⟩]) (l ++ [.text xs]) (Sx ++ S) :=
  h.snoc HIn.appR ⟨⟨a, c, xs⟩, rfl, rfl, ho.rds.mono HIn.appL⟩
theorem Items.file {ql : List IV} {l : List QI} {S : Hp} {n : ByteArray} (h : Items ql l S) : Items (ql ++ [⟨133, .string n⟩]) (l ++ [.file n]) S := h.snoc HIn.all rfl
theorem hsub_app {S S' R : Hp} (h : HSub S S') : HSub (S ++ R) (S' ++ R) := by
  obtain ⟨T, hT⟩ := h
  refine ⟨T, (hT.append_right R).trans ?_⟩
  rw [List.append_assoc, List.append_assoc]
  exact List.Perm.append_left _ List.perm_append_comm
/-- what a world notes: its calls; how many went out -/
structure QS where
  calls : List CA
  outs : Nat
def sdR (fs : List FileV) (s : QS) (n : ByteArray) : List UInt8 × QS := (look fs n, ⟨s.calls ++ [⟨3, n, []⟩], s.outs⟩)
def sdO (fail err : Int) (s : QS) (b : List UInt8) : Int × QS := (if (s.outs : Int) + 1 = fail then err else 0, ⟨s.calls ++ [⟨1, ⟨#[]⟩, b⟩], s.outs + 1⟩)
def sdKR (s : QS) (_ : ByteArray) : Prop := s.calls.length ≤ 4194304
def sdKO (s : QS) (b : List UInt8) : Prop := s.calls.length ≤ 4194304 ∧ b.length ≤ 1048577 ∧ s.outs ≤ 4194303
theorem sdFits {fs : List FileV} {fail err : Int} (hf : ∀ f ∈ fs, f.b.xs.length ≤ 1048576) : ∀ (l : List QI) (s : QS), (∀ b, QI.text b ∈ l → b.length ≤ 1048576) → s.calls.length + 2 * l.length ≤ 4194304 → s.outs + l.length ≤ 4194303 → fitsQ (sdR fs) (sdO fail err) sdKR sdKO l s
  | [], _, _, _, _ => trivial
  | .text b :: l, s, hb, hn, hn2 => by
    have h1 := hb b List.mem_cons_self
    simp only [List.length_cons] at hn hn2
    refine ⟨⟨by omega, by show s.calls.length ≤ _; omega, by simp; omega, by omega⟩, fun _ => sdFits hf l _ (fun b' h' => hb b' (List.mem_cons_of_mem _ h')) ?_ ?_⟩
    · simp only [stepQ, sdO, List.length_append, List.length_singleton]; omega
    · simp only [stepQ, sdO]; omega
  | .file n :: l, s, hb, hn, hn2 => by
    have h1 := look_len (n := n) hf
    simp only [List.length_cons] at hn hn2
    refine ⟨⟨by show s.calls.length ≤ _; omega, fun _ => ⟨by simp [sdR]; omega, by simp [sdR]; omega, by simp [sdR]; omega⟩⟩, fun _ => sdFits hf l _ (fun b' h' => hb b' (List.mem_cons_of_mem _ h')) ?_ ?_⟩
    · simp only [stepQ]
      split <;> simp [sdR, sdO] <;> omega
    · simp only [stepQ]
      split <;> simp [sdR, sdO] <;> omega
/-- what is wanted, step by step -/
def wantQ (fs : List FileV) (fail : Int) (s : QS) (o : OpQ) : QS :=
  if (o.k ≠ 0 ∧ o.k ≠ 1) ∨ (0 < fail ∧ (s.outs : Int) = fail) then s
  else if o.k = 1 then (if look fs o.n = [] then ⟨s.calls ++ [⟨3, o.n, []⟩], s.outs⟩ else ⟨s.calls ++ [⟨3, o.n, []⟩] ++ [⟨1, ⟨#[]⟩, look fs o.n⟩], s.outs + 1⟩)
  else ⟨s.calls ++ [⟨1, ⟨#[]⟩, o.b.xs ++ [10]⟩], s.outs + 1⟩
def wantsQ (fs : List FileV) (fail : Int) (l : List OpQ) : QS := l.foldl (wantQ fs fail) ⟨[], 0⟩
theorem wantsQ_take {fs : List FileV} {fail : Int} {l : List OpQ} {j : Nat} (h : j < l.length) : wantsQ fs fail (l.take (j + 1)) = wantQ fs fail (wantsQ fs fail (l.take j)) (l.getD j oz) := by
  rw [gd_take h (d := oz), wantsQ, List.foldl_append]; rfl
theorem want_stop {fs : List FileV} {fail : Int} : ∀ (l : List OpQ) (s : QS), 0 < fail → (s.outs : Int) = fail → l.foldl (wantQ fs fail) s = s
  | [], _, _, _ => rfl
  | o :: l, s, h1, h2 => by
    rw [List.foldl_cons, show wantQ fs fail s o = s from by unfold wantQ; rw [if_pos (.inr ⟨h1, h2⟩)]]
    exact want_stop l s h1 h2
theorem sdO_t {fail err : Int} {s : QS} {b : List UInt8} (h : (s.outs : Int) + 1 = fail) : sdO fail err s b = (err, ⟨s.calls ++ [⟨1, ⟨#[]⟩, b⟩], s.outs + 1⟩) := by simp only [sdO, if_pos h]
theorem sdO_f {fail err : Int} {s : QS} {b : List UInt8} (h : ¬ (s.outs : Int) + 1 = fail) : sdO fail err s b = (0, ⟨s.calls ++ [⟨1, ⟨#[]⟩, b⟩], s.outs + 1⟩) := by simp only [sdO, if_neg h]
def errQ (fail err : Int) (s : QS) : Int := if 0 < fail ∧ (s.outs : Int) = fail then err else 0
theorem errQ_t {fail err : Int} {s : QS} (h : 0 < fail ∧ (s.outs : Int) = fail) : errQ fail err s = err := if_pos h
theorem errQ_f {fail err : Int} {s : QS} (h : ¬ (0 < fail ∧ (s.outs : Int) = fail)) : errQ fail err s = 0 := if_neg h
theorem flush_want {fs : List FileV} {fail err : Int} (he : err ≠ 0) : ∀ (l : List OpQ) (s : QS), ¬ (0 < fail ∧ (s.outs : Int) = fail) →
    flushQ (sdR fs) (sdO fail err) (thingsOf l) s = (errQ fail err (l.foldl (wantQ fs fail) s), l.foldl (wantQ fs fail) s)
  | [], s, h => by simp only [thingsOf, flushQ, List.foldl_nil, errQ_f h]
  | o :: l, s, h => by
    simp only [List.foldl_cons]
    by_cases h0 : o.k = 0
    · have hw : wantQ fs fail s o = ⟨s.calls ++ [⟨1, ⟨#[]⟩, o.b.xs ++ [10]⟩], s.outs + 1⟩ := by
        unfold wantQ
        rw [if_neg (by rintro (⟨h1, _⟩ | h1); exact h1 h0; exact h h1), if_neg (by omega)]
      simp only [thingsOf, if_pos h0, hw]
      rw [flush_text]
      by_cases hq : (s.outs : Int) + 1 = fail
      · have e : sdO fail err s (o.b.xs ++ [10]) = (err, ⟨s.calls ++ [⟨1, ⟨#[]⟩, o.b.xs ++ [10]⟩], s.outs + 1⟩) := by simp only [sdO, if_pos hq]
        rw [e, if_pos he, want_stop l _ (by omega) (by dsimp only; omega)]
        rw [errQ_t ⟨by omega, by dsimp only; omega⟩]
      · have e : sdO fail err s (o.b.xs ++ [10]) = (0, ⟨s.calls ++ [⟨1, ⟨#[]⟩, o.b.xs ++ [10]⟩], s.outs + 1⟩) := by simp only [sdO, if_neg hq]
        rw [e, if_neg (by simp), flush_want he l _ (by dsimp only; omega)]
    · by_cases h1 : o.k = 1
      · have hn : ¬ ((o.k ≠ 0 ∧ o.k ≠ 1) ∨ (0 < fail ∧ (s.outs : Int) = fail)) := by rintro (⟨_, h2⟩ | h2); exact h2 h1; exact h h2
        simp only [thingsOf, if_neg h0, if_pos h1]
        by_cases hb : look fs o.n = []
        · have hw : wantQ fs fail s o = ⟨s.calls ++ [⟨3, o.n, []⟩], s.outs⟩ := by unfold wantQ; rw [if_neg hn, if_pos h1, if_pos hb]
          rw [flush_file0 (by simp only [sdR, hb]; rfl), hw]
          exact flush_want he l _ h
        · have hw : wantQ fs fail s o = ⟨s.calls ++ [⟨3, o.n, []⟩] ++ [⟨1, ⟨#[]⟩, look fs o.n⟩], s.outs + 1⟩ := by unfold wantQ; rw [if_neg hn, if_pos h1, if_neg hb]
          rw [flush_file (by simp only [sdR]; intro h2; exact hb (List.eq_nil_of_length_eq_zero (by omega))), hw]
          by_cases hq : (s.outs : Int) + 1 = fail
          · have e : sdO fail err (sdR fs s o.n).2 (sdR fs s o.n).1 = (err, ⟨s.calls ++ [⟨3, o.n, []⟩] ++ [⟨1, ⟨#[]⟩, look fs o.n⟩], s.outs + 1⟩) := sdO_t (s := ⟨s.calls ++ [⟨3, o.n, []⟩], s.outs⟩) hq
            rw [e, if_pos he, want_stop l _ (by omega) (by dsimp only; omega)]
            rw [errQ_t ⟨by omega, by dsimp only; omega⟩]
          · have e : sdO fail err (sdR fs s o.n).2 (sdR fs s o.n).1 = (0, ⟨s.calls ++ [⟨3, o.n, []⟩] ++ [⟨1, ⟨#[]⟩, look fs o.n⟩], s.outs + 1⟩) := sdO_f (s := ⟨s.calls ++ [⟨3, o.n, []⟩], s.outs⟩) hq
            rw [e, if_neg (by simp), flush_want he l _ (by dsimp only; omega)]
      · have hw : wantQ fs fail s o = s := by unfold wantQ; rw [if_pos (.inl ⟨h0, h1⟩)]
        simp only [thingsOf, if_neg h0, if_neg h1, hw]
        exact flush_want he l s h
theorem want_len {fs : List FileV} {fail : Int} : ∀ (l : List OpQ) (s : QS), (l.foldl (wantQ fs fail) s).calls.length ≤ s.calls.length + 2 * l.length ∧ (l.foldl (wantQ fs fail) s).outs ≤ s.outs + l.length
  | [], s => by simp
  | o :: l, s => by
    have ih := want_len (fs := fs) (fail := fail) l (wantQ fs fail s o)
    have h1 : (wantQ fs fail s o).calls.length ≤ s.calls.length + 2 ∧ (wantQ fs fail s o).outs ≤ s.outs + 1 := by
      unfold wantQ
      split
      · omega
      · split
        · split <;> simp
        · simp
    simp only [List.foldl_cons, List.length_cons]
    omega
theorem St.apart_oldM {α : Type} {E : α → List Value} {k : Nat} [he : Enc E k] {a : Option Addr} {c : Nat} {xs : List α} {w0 w : World} {M : List Nat} {H S : Hp} (st : St w0 w M H) (hin : HIn S H) (hr : Rd E w0 (.slice a xs.length c) xs) (hA : Apart M (.slice a xs.length c)) (hk : 0 < k) : Apart (keys S) (.slice a xs.length c) := by
  intro A n c' hv hn hm
  have hv' := hv
  cases hv
  obtain ⟨⟨b', o⟩, hmS, hb⟩ := List.mem_map.1 hm
  have hb : b' = A.block := hb
  rcases st.own _ _ (hin _ hmS) with hM | h1
  · exact hA A _ _ rfl hn (hb ▸ hM)
  · have hl : 0 < xs.length := by omega
    obtain ⟨u, hu⟩ : ∃ u, (flat E xs)[0]? = some u := by
      have : 0 < (flat E xs).length := by rw [flat_len]; exact Nat.mul_pos hl hk
      exact ⟨_, List.getElem?_eq_getElem this⟩
    have h2 := hr.get 0 u hu
    have h3 : A.block < w0.heap.size := by
      rcases Nat.lt_or_ge A.block w0.heap.size with h' | h'
      · exact h'
      · simp [World.cell?, ea, sblk, oblk, Array.getElem?_eq_none h'] at h2
    omega
theorem hin_sub {S H : Hp} (h : HSub H S) : HIn S H := fun x hx => by
  obtain ⟨R, hR⟩ := h
  exact hR.mem_iff.2 (List.mem_append_left _ hx)
/-- slices that were there ahead: they read as they did, and lie apart from a part of the heap -/
def OldL (L : List (Sl UInt8)) (S : Hp) (w : World) : Prop := ∀ p ∈ L, Rd Eb w p.v p.xs ∧ Apart (keys S) p.v
theorem apart_mono {M M' : List Nat} {v : Value} (h : Apart M v) (hs : ∀ b ∈ M', b ∈ M) : Apart M' v := fun a n c hv hn hm => h a n c hv hn (hs _ hm)
theorem OldL.st {L : List (Sl UInt8)} {S0 S H : Hp} {w0 w : World} (h : OldL L S0 w0) (st : St w0 w (keys S0) H) (hin : HIn S H) : OldL L S w := fun p hp =>
  ⟨(RdK.old (κ := ⟨0, [], w0, keys S0⟩) (h p hp).1 (h p hp).2).out w st, St.apart_oldM st hin (h p hp).1 (h p hp).2 (by decide)⟩
theorem OldL.sub {L : List (Sl UInt8)} {S0 S : Hp} {w : World} (h : OldL L S0 w) (hin : HIn S S0) : OldL L S w := fun p hp =>
  ⟨(h p hp).1, apart_mono (h p hp).2 fun b hb => by
    obtain ⟨x, hx, rfl⟩ := List.mem_map.1 hb
    exact List.mem_map.2 ⟨x, hin x hx, rfl⟩⟩
theorem OldL.top {L : List (Sl UInt8)} {S H : Hp} {w0 w : World} (h : ∀ p ∈ L, Rd Eb w0 p.v p.xs) (st : St w0 w [] H) (hin : HIn S H) : OldL L S w := fun p hp =>
  ⟨(RdK.old0 (n := 0) (ds := []) (h p hp)).out w st, St.apart_old st hin (h p hp) (by decide)⟩
end Go.Proofs.YtmmajabfmhipeaaDoor
