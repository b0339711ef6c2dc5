/- Part of the proofs over this seat: see the text that holds the theorem. Conditions: each theorem bears its own. -/
import Derived.Test.YtmmajabfmhipeaaDoorFM14Z
namespace Go.Proofs.YtmmajabfmhipeaaDoor
open Go Go.HL Go.Proofs Go.Tab
theorem abs_at {xs ys : List CallV} {j : Nat} (h : xs.map CallV.abs = ys.map CallV.abs) (hj : j < xs.length) : (xs.getD j cz).abs = (ys.getD j cz).abs := by
  have hl : xs.length = ys.length := by simpa using congrArg List.length h
  have h1 := congrArg (fun l => l[j]?) h
  simp only [List.getElem?_map, gd_get hj (d := cz), gd_get (hl ▸ hj) (d := cz), Option.map_some, Option.some.injEq] at h1
  exact h1
theorem eqT_fn (a a2 : Option Addr) (c c2 : Nat) (xs ys : List UInt8) (h : xs = ys) : HL.Fn Tryd.prog 37 [.slice a xs.length c, .slice a2 ys.length c2] (fun w => Rd Eb w (.slice a xs.length c) xs ∧ Rd Eb w (.slice a2 ys.length c2) ys) [] (fun v _ => v = .bool true) :=
  (eqBytes_fn a a2 c c2 xs ys).weaken (fun _ h => h) fun v _ hv => by rw [hv, decide_eq_true h]
theorem saysFileL_fn (fR : FuncId) (us cs : List Value) (n : ByteArray) (S : Hp) (L : List (Sl UInt8)) (p1 : List UInt8 → Hp → Prop) (hR : HL.Fn Tryd.prog fR (us ++ [.string n] ++ cs) (OldL L S) S (fun v S' => ∃ a c b, v = .slice a b.length c ∧ RdS Eb (.slice a b.length c) b S' ∧ p1 b S')) : HL.Fn Tryd.prog 134 [.string n, .func (.func fR) us.toArray cs.toArray] (OldL L S) S (fun v S' => ∃ a' c' b Sb S1, v = .slice a' b.length c' ∧ S' = Sb ++ S1 ∧ OwnS Eb 1 5 (.slice a' b.length c') b Sb ∧ p1 b S1) := by
  refine fn_of Tryd.func134 rfl rfl rfl fun w0 hw => ?_
  refine c_seq fun _ hK1 => ?_
  refine c_region ?_
  refine o_step rfl (s_assign rfl) ?_
  refine o_nil ?_
  refine x_then (hK1 _ _ ?_)
  refine c_seq fun _ hK2 => ?_
  refine c_region ?_
  refine o_step rfl (s_move rfl) ?_
  refine o_step rfl (s_move rfl) ?_
  refine o_callC (us := us) (vs := [_]) (cs := cs) (hR) rfl rfl rfl (by exact .all) (fun w st => OldL.st hw st HIn.all) (fun v7 S7 ⟨a7, c7, b7, hv7, hr7, hp7⟩ => ?_)
  subst hv7
  refine o_call (clone_fn a7 c7 b7) rfl rfl rfl (by exact .nil) (fun w st => (hr7.rdk hiA).out w st) (fun v8 S8 ⟨a8, c8, hv8, hS8⟩ => ?_)
  subst hv8
  refine o_step rfl (s_assign rfl) ?_
  refine o_nil ?_
  refine x_then (hK2 _ _ ?_)
  refine c_ret ?_
  refine ?_
  refine x_sub (Sub.refl _) (H' := S8 ++ S7) hzB ?_
  exact x_ret rfl (.tmp rfl (.nil)) (⟨_, _, _, _, _, rfl, rfl, hS8, hp7⟩)
theorem sameCallsN_fn (a1 a2 : Option Addr) (c1 c2 : Nat) (xs ys : List CallV) (hab : xs.map CallV.abs = ys.map CallV.abs) : HL.Fn Tryd.prog 85 [.slice a1 xs.length c1, .slice a2 ys.length c2, .int .i64 xs.length] (fun w => Rd Ecall w (.slice a1 xs.length c1) xs ∧ Rd Ecall w (.slice a2 ys.length c2) ys ∧ (∀ x ∈ xs, Rd Eb w x.b.v x.b.xs) ∧ (∀ y ∈ ys, Rd Eb w y.b.v y.b.xs)) [] (fun v _ => v = .bool true) := by
  refine fn_of Tryd.func85 rfl rfl rfl fun w0 hw => ?_
  obtain ⟨hx, hy, hxb, hyb⟩ := hw
  have hsx := hx.sl
  have hsy := hy.sl
  have hbx := hsx.le
  have hby := hsy.le
  have hlen : xs.length = ys.length := by simpa using congrArg List.length hab
  refine c_seq fun _ hK1 => ?_
  refine c_region ?_
  refine o_step rfl (s_assign rfl) ?_
  refine o_nil ?_
  refine x_then (hK1 _ _ ?_)
  refine c_seq fun _ hK2 => ?_
  refine c_seq fun _ hK3 => ?_
  refine c_region ?_
  refine o_step rfl (s_move rfl) ?_
  refine o_step rfl (s_len rfl) ?_
  refine o_step rfl (s_move rfl) ?_
  refine o_step rfl (s_lss_f rfl rfl (by omega)) ?_
  refine o_step rfl (s_move rfl) ?_
  refine o_yes rfl rfl ?_
  refine o_step rfl (s_move rfl) ?_
  refine o_yes rfl rfl ?_
  refine o_step rfl (s_len rfl) ?_
  refine o_yes rfl rfl ?_
  refine o_step rfl (s_move rfl) ?_
  refine o_yes rfl rfl ?_
  refine o_step rfl (s_lss_f rfl rfl (by omega)) ?_
  refine o_step rfl (s_pick_f rfl rfl) ?_
  refine o_nil ?_
  refine x_then (hK3 _ _ ?_)
  refine c_false rfl ?_
  refine c_skip ?_
  refine x_then (hK2 _ _ ?_)
  refine c_seq fun _ hK4 => ?_
  refine c_seq fun _ hK5 => ?_
  refine c_region ?_
  refine o_step rfl (s_assign rfl) ?_
  refine o_nil ?_
  refine x_then (hK5 _ _ ?_)
  refine c_block ?_
  -- not carried: 6
  refine c_loopB (fun (j : Nat) => j ≤ xs.length) (fun (j : Nat) => [(7, .int .i64 j)]) [(0, _), (1, _), (2, _)] (fun (j : Nat) => _) (fun (j : Nat) => xs.length - j) 0 (by omega) sbA sbA hzB ?_
  rintro j hj
  refine c_seq fun _ hK6 => ?_
  refine c_seq fun _ hK7 => ?_
  refine c_region ?_
  refine o_step rfl (s_move rfl) ?_
  refine o_step rfl (s_move rfl) ?_
  refine o_step rfl (s_lss rfl rfl) ?_
  refine o_nil ?_
  refine x_then (hK7 _ _ ?_)
  refine c_if rfl (fun hlt => ?_) (fun hlt => ?_)
  · skip
    have hjx : j < xs.length := by omega
    have hjy : j < ys.length := by omega
    have e : (xs.getD j cz).abs = (ys.getD j cz).abs := abs_at hab hjx
    have e1 : (xs.getD j cz).k = (ys.getD j cz).k := congrArg CA.k e
    have e2 : (xs.getD j cz).n = (ys.getD j cz).n := congrArg CA.n e
    have e3 : (xs.getD j cz).b.xs = (ys.getD j cz).b.xs := congrArg CA.b e
    refine c_skip ?_
    refine x_then (hK6 _ _ ?_)
    refine c_seq fun _ hK8 => ?_
    refine c_block ?_
    refine c_seq fun _ hK9 => ?_
    refine c_quiet (by kernel_rfl) ?_
    refine .op rfl (s_move rfl) ?_
    refine .op rfl (s_move rfl) ?_
    refine .op rfl (s_idx rfl rfl (by assumption) (by omega)) ?_
    refine .op rfl (s_field rfl rfl (by decide)) ?_
    refine .op rfl (s_ld rfl ((RdK.old0 hx).ld j 0 (gd_get (d := cz) hjx) rfl (by decide) (by omega))) ?_
    refine .op rfl (s_move rfl) ?_
    refine .op rfl (s_move rfl) ?_
    refine .op rfl (s_idx rfl rfl (by assumption) (by omega)) ?_
    refine .op rfl (s_field rfl rfl (by decide)) ?_
    refine .op rfl (s_ld rfl ((RdK.old0 hy).ld j 0 (gd_get (d := cz) hjy) rfl (by decide) (by omega))) ?_
    refine .op rfl (s_neq_f rfl rfl (by omega)) ?_
    refine .op rfl (s_move rfl) ?_
    refine .yes rfl rfl rfl (s_move rfl) ?_
    refine .yes rfl rfl rfl (s_move rfl) ?_
    refine .yes rfl rfl rfl (s_idx rfl rfl (by assumption) (by omega)) ?_
    refine .yes rfl rfl rfl (s_field rfl rfl (by decide)) ?_
    refine .yes rfl rfl rfl (s_ld rfl ((RdK.old0 hx).ld j 1 (gd_get (d := cz) hjx) rfl (by decide) (by omega))) ?_
    refine .yes rfl rfl rfl (s_move rfl) ?_
    refine .yes rfl rfl rfl (s_move rfl) ?_
    refine .yes rfl rfl rfl (s_idx rfl rfl (by assumption) (by omega)) ?_
    refine .yes rfl rfl rfl (s_field rfl rfl (by decide)) ?_
    refine .yes rfl rfl rfl (s_ld rfl ((RdK.old0 hy).ld j 1 (gd_get (d := cz) hjy) rfl (by decide) (by omega))) ?_
    refine .yes rfl rfl rfl (step_cast (v' := .bool false) (s_neq_str rfl rfl) (by rw [e2]; simp)) ?_
    refine .op rfl (s_pick_f rfl rfl) ?_
    refine .op rfl (s_move rfl) ?_
    refine .yes rfl rfl rfl (s_move rfl) ?_
    refine .yes rfl rfl rfl (s_move rfl) ?_
    refine .yes rfl rfl rfl (s_idx rfl rfl (by assumption) (by omega)) ?_
    refine .yes rfl rfl rfl (s_field rfl rfl (by decide)) ?_
    refine .yes rfl rfl rfl (s_ld rfl ((RdK.old0 hx).ld j 2 (gd_get (d := cz) hjx) rfl (by decide) (by omega))) ?_
    refine .yes rfl rfl rfl (s_move rfl) ?_
    refine .yes rfl rfl rfl (s_move rfl) ?_
    refine .yes rfl rfl rfl (s_idx rfl rfl (by assumption) (by omega)) ?_
    refine .yes rfl rfl rfl (s_field rfl rfl (by decide)) ?_
    refine .yes rfl rfl rfl (s_ld rfl ((RdK.old0 hy).ld j 2 (gd_get (d := cz) hjy) rfl (by decide) (by omega))) ?_
    refine .call (fun _ fr => by rw [wanted_of fr rfl rfl rfl]; rfl) rfl rfl rfl (eqT_fn (xs.getD j cz).b.a (ys.getD j cz).b.a (xs.getD j cz).b.c (ys.getD j cz).b.c (xs.getD j cz).b.xs (ys.getD j cz).b.xs e3) (fun w st => ⟨(RdK.old0 (hxb _ (gd_mem (d := cz) hjx))).out w st, (RdK.old0 (hyb _ (gd_mem (d := cz) hjy))).out w st⟩) ?_
    refine .yes rfl rfl rfl (s_not rfl) ?_
    refine .op rfl (s_pick_f rfl rfl) ?_
    refine .nil ?_
    refine x_then (hK9 _ _ ?_)
    refine c_false rfl ?_
    refine c_skip ?_
    refine x_block ?_
    refine x_then (hK8 _ _ ?_)
    refine c_region ?_
    refine o_step rfl (s_move rfl) ?_
    refine o_step rfl (s_add rfl rfl (by omega)) ?_
    refine o_step rfl (s_assign rfl) ?_
    refine o_nil ?_
    exact x_then (x_inv (j + 1) (by omega) (by first | omega | (dsimp only; omega)) sbA hzB)
  · skip
    refine c_exit ?_
    refine x_then_exit ?_
    refine x_then_exit ?_
    refine x_block_exit ?_
    refine x_then (hK4 _ _ ?_)
    refine c_seq fun _ hK10 => ?_
    refine c_region ?_
    refine o_step rfl (s_assign rfl) ?_
    refine o_nil ?_
    refine x_then (hK10 _ _ ?_)
    refine c_ret ?_
    refine ?_
    exact x_ret rfl (.tmp rfl (.nil)) (rfl)
theorem sameCalls_fn (a1 a2 : Option Addr) (c1 c2 : Nat) (xs ys : List CallV) (hab : xs.map CallV.abs = ys.map CallV.abs) : HL.Fn Tryd.prog 52 [.slice a1 xs.length c1, .slice a2 ys.length c2] (fun w => Rd Ecall w (.slice a1 xs.length c1) xs ∧ Rd Ecall w (.slice a2 ys.length c2) ys ∧ (∀ x ∈ xs, Rd Eb w x.b.v x.b.xs) ∧ (∀ y ∈ ys, Rd Eb w y.b.v y.b.xs)) [] (fun v _ => v = .bool true) := by
  refine fn_of Tryd.func52 rfl rfl rfl fun w0 hw => ?_
  have hlen : xs.length = ys.length := by simpa using congrArg List.length hab
  refine c_seq fun _ hK1 => ?_
  refine c_region ?_
  refine o_step rfl (s_assign rfl) ?_
  refine o_nil ?_
  refine x_then (hK1 _ _ ?_)
  refine c_seq fun _ hK2 => ?_
  refine c_region ?_
  refine o_step rfl (s_move rfl) ?_
  refine o_step rfl (s_len rfl) ?_
  refine o_step rfl (s_move rfl) ?_
  refine o_step rfl (s_len rfl) ?_
  refine o_step rfl (s_eql_t rfl rfl (by omega)) ?_
  refine o_step rfl (s_move rfl) ?_
  refine o_yes rfl rfl ?_
  refine o_step rfl (s_move rfl) ?_
  refine o_yes rfl rfl ?_
  refine o_step rfl (s_move rfl) ?_
  refine o_yes rfl rfl ?_
  refine o_step rfl (s_move rfl) ?_
  refine o_yes rfl rfl ?_
  refine o_step rfl (s_len rfl) ?_
  refine o_yes rfl rfl ?_
  refine o_callP (sameCallsN_fn a1 a2 c1 c2 xs ys hab) rfl rfl rfl (fun w st => ⟨(RdK.old0 hw.1).out w st, (RdK.old0 hw.2.1).out w st, fun x hx => (RdK.old0 (hw.2.2.1 x hx)).out w st, fun y hy => (RdK.old0 (hw.2.2.2 y hy)).out w st⟩) (fun v15 hv15 => ?_)
  subst hv15
  refine o_step rfl (s_pick_t rfl rfl) ?_
  refine o_step rfl (s_assign rfl) ?_
  refine o_nil ?_
  refine x_then (hK2 _ _ ?_)
  refine c_ret ?_
  refine ?_
  exact x_ret rfl (.tmp rfl (.nil)) (rfl)
end Go.Proofs.YtmmajabfmhipeaaDoor
