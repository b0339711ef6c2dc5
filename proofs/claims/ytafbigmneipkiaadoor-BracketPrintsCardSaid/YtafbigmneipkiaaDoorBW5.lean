/- Part of the proofs over this seat: see the text that holds the theorem. Conditions: each theorem bears its own. -/
import Derived.Test.YtafbigmneipkiaaDoorHlB
import Derived.Test.YtafbigmneipkiaaDoorBW4
import Derived.Test.YtafbigmneipkiaaDoorBC4
import Derived.Test.YtafbigmneipkiaaDoorMB3
namespace Go.Proofs.YtafbigmneipkiaaDoor
open Go Go.HL Go.Proofs Go.Tab Go.HL.Kl Go.HL.Kl.Bk
/-- signs, made one by one -/
def signL (xs : List UInt8) (j : Nat) : List Mk := (List.range xs.length).map fun i => if i < j then sgn (xs.getD i 0) else ⟨0, false⟩
theorem signL_len {xs : List UInt8} {j : Nat} : (signL xs j).length = xs.length := by simp [signL]
theorem signL_zero {xs : List UInt8} : signL xs 0 = List.replicate xs.length ⟨0, false⟩ := by
  apply List.ext_getElem
  · simp [signL]
  · intro i h1 h2; simp [signL]
theorem signL_all {xs : List UInt8} : signL xs xs.length = xs.map sgn := by
  apply List.ext_getElem
  · simp [signL]
  · intro i h1 h2
    have hi : i < xs.length := by simpa [signL] using h1
    simp [signL, hi]
theorem signL_set {xs : List UInt8} {j : Nat} (hj : j < xs.length) : (signL xs j).set j (sgn xs[j]) = signL xs (j + 1) := by
  apply List.ext_getElem
  · simp [signL]
  · intro i h1 h2
    have hi : i < xs.length := by simpa [signL] using h2
    rw [List.getElem_set]
    split
    · rename_i e; subst e; simp [signL, hj]
    · rename_i e
      simp only [signL, List.getElem_map, List.getElem_range]
      by_cases h3 : i < j
      · rw [if_pos h3, if_pos (by omega)]
      · rw [if_neg h3, if_neg (by omega)]
theorem signL_splice {xs : List UInt8} {j : Nat} (hj : j < xs.length) {e : Mk} (he : (signL xs j)[j]? = some e) : Em (sgn xs[j]) = splice (Em e) 0 [.int .u8 xs[j].toNat] := by
  have h1 : (signL xs j)[j]? = some ⟨0, false⟩ := by simp [signL, hj]
  rw [h1] at he
  cases he
  rfl
theorem signs_fn (a : Option Addr) (c : Nat) (xs : List UInt8) (hn : xs.length ≤ 2147483647) : HL.Fn Tryd.prog 35 [.slice a xs.length c] (fun w => Rd Eb w (.slice a xs.length c) xs) [] (fun v S' => ∃ a' c', v = .slice a' (xs.map sgn).length c' ∧ OwnS Em 2 35 (.slice a' (xs.map sgn).length c') (xs.map sgn) S') := by
  refine fn_of Tryd.func35 rfl rfl rfl fun w0 hw => ?_
  have hsx := hw.sl
  have hbx := hsx.le
  refine c_seq fun _ hK1 => ?_
  refine c_region ?_
  refine o_step rfl (s_assign rfl) ?_
  refine o_nil ?_
  refine x_then (hK1 _ _ ?_)
  refine c_seq fun _ hK2 => ?_
  refine c_region ?_
  refine o_step rfl (s_move rfl) ?_
  refine o_step rfl (s_len rfl) ?_
  refine o_make (E := Em) (zx := ⟨0, false⟩) (n := xs.length) rfl rfl rfl (by omega) (by omega) rfl fun b8 S8 hS8 => ?_
  refine o_step rfl (s_assign rfl) ?_
  refine o_nil ?_
  refine x_then (hK2 _ _ ?_)
  refine c_seq fun _ hK3 => ?_
  refine c_seq fun _ hK4 => ?_
  refine c_region ?_
  refine o_step rfl (s_move rfl) ?_
  refine o_step rfl (s_len rfl) ?_
  refine o_step rfl (s_move rfl) ?_
  refine o_nil ?_
  refine x_then (hK4 _ _ ?_)
  refine c_block ?_
  refine c_loop2 (fun (j : Nat) (S : Hp) => j ≤ xs.length ∧ OwnS Em 2 35 (.slice (some ⟨b8, 0, none⟩) xs.length xs.length) (signL xs j) S) (fun (j : Nat) (S : Hp) => [(11, .int .i64 j)]) [(2, _), (3, _), (9, _), (10, _)] (fun (j : Nat) (S : Hp) => S) (fun (j : Nat) (S : Hp) => xs.length - j) 0 _ ⟨by omega, by rw [signL_zero]; exact hS8⟩ sbA sbA hzB ?_
  rintro j S ⟨hj, hS⟩
  have hsl := hS.sl
  rw [signL_len] at hsl
  refine c_seq fun _ hK5 => ?_
  refine c_region ?_
  by_cases hjl : j < xs.length
  · skip
    refine o_step rfl (step_cast (v' := .bool true) (s_lss rfl rfl) (by rw [decide_eq_true (by omega)])) ?_
    refine o_nil ?_
    refine x_then (hK5 _ _ ?_)
    refine c_seq fun _ hK6 => ?_
    refine c_true rfl ?_
    refine c_skip ?_
    refine x_then (hK6 _ _ ?_)
    refine c_seq fun _ hK7 => ?_
    refine c_block ?_
    refine c_seq fun _ hK8 => ?_
    refine c_region ?_
    refine o_step rfl (s_move rfl) ?_
    refine o_step rfl (s_idx rfl rfl (by assumption) (by omega)) ?_
    refine o_step rfl (s_ld rfl ((RdK.old0 hw).ld j 0 (List.getElem?_eq_getElem hjl) rfl (by decide) (by omega))) ?_
    refine o_step rfl (s_assign rfl) ?_
    refine o_step rfl (s_assign rfl) ?_
    refine o_nil ?_
    refine x_then (hK8 _ _ ?_)
    refine c_region ?_
    refine o_step rfl (s_move rfl) ?_
    refine o_step rfl (s_move rfl) ?_
    refine o_step rfl (s_move rfl) ?_
    refine o_step rfl (s_idx rfl rfl (by assumption) (by omega)) ?_
    refine o_step rfl (s_field rfl rfl (by decide)) ?_
    refine o_stS (i := j) (off := 0) (cs := [.int .u8 xs[j].toNat]) (sgn xs[j]) hS pkA rfl rfl rfl rfl (by rw [signL_len]; exact hjl) (by rw [Int.toNat_natCast]; rfl) (by simp) (fun e he => signL_splice hjl he) (by simp [Value.oneCell']) fun S' hS' => ?_
    refine o_nil ?_
    refine x_block ?_
    refine x_then (hK7 _ _ ?_)
    refine c_region ?_
    refine o_step rfl (s_add rfl rfl (by omega)) ?_
    refine o_step rfl (s_move rfl) ?_
    refine o_nil ?_
    exact x_then (x_inv (j + 1, _) ⟨by omega, by rw [← signL_set hjl]; exact hS'⟩ (by first | omega | (dsimp only; omega)) sbA hzB)
  · skip
    have hjn : j = xs.length := by omega
    subst hjn
    refine o_step rfl (step_cast (v' := .bool false) (s_lss rfl rfl) (by rw [decide_eq_false (by omega)])) ?_
    refine o_nil ?_
    refine x_then (hK5 _ _ ?_)
    refine c_seq fun _ hK9 => ?_
    refine c_false rfl ?_
    refine c_exit ?_
    refine x_then_exit ?_
    refine x_then_exit ?_
    refine x_block_exit ?_
    refine x_then (hK3 _ _ ?_)
    refine c_seq fun _ hK10 => ?_
    refine c_region ?_
    refine o_step rfl (s_move rfl) ?_
    refine o_step rfl (s_assign rfl) ?_
    refine o_nil ?_
    refine x_then (hK10 _ _ ?_)
    refine c_ret ?_
    refine ?_
    exact x_ret rfl (.tmp rfl (.nil)) (⟨_, _, by rw [List.length_map]; rfl, by rw [List.length_map, ← signL_all]; exact hS⟩)

theorem end_fn (b : UInt8) : HL.Fn Tryd.prog 38 [.int .u8 b.toNat] (TbB []) [] (fun v S' => ∃ a' c', v = .slice a' (endM b).length c' ∧ OwnS Em 2 35 (.slice a' (endM b).length c') (endM b) S') := by
  refine fn_of Tryd.func38 rfl rfl rfl fun w0 hw => ?_
  refine c_seq fun _ hK1 => ?_
  refine c_region ?_
  refine o_step rfl (s_assign rfl) ?_
  refine o_nil ?_
  refine x_then (hK1 _ _ ?_)
  refine c_seq fun _ hK2 => ?_
  refine c_seq fun _ hK3 => ?_
  refine c_region ?_
  refine o_step rfl (s_ldB rfl (RdPK.cels (RdPK.old0 hw.2.1)) rfl) ?_
  refine o_step rfl (s_move rfl) ?_
  refine o_nil ?_
  refine x_then (hK3 _ _ ?_)
  refine c_block ?_
  -- not carried: 2
  refine c_loopB (fun (k : Nat) => k ≤ 4 ∧ (1 ≤ k → b ≠ 91) ∧ (2 ≤ k → b ≠ 93) ∧ (3 ≤ k → b ≠ 45) ∧ (4 ≤ k → b ≠ 94)) (fun (k : Nat) => [(6, .int .i64 k)]) [(0, _), (5, _)] (fun (k : Nat) => []) (fun (k : Nat) => 4 - k) 0 ⟨by omega, fun h => by omega, fun h => by omega, fun h => by omega, fun h => by omega⟩ sbA sbA hzA ?_
  rintro k ⟨hk, h0, h1, h2, h3⟩
  obtain rfl | rfl | rfl | rfl | rfl : k = 0 ∨ k = 1 ∨ k = 2 ∨ k = 3 ∨ k = 4 := by omega
  · skip
    refine c_seq fun _ hK4 => ?_
    refine c_region ?_
    refine o_step rfl (s_lss_t rfl rfl (by omega)) ?_
    refine o_nil ?_
    refine x_then (hK4 _ _ ?_)
    refine c_seq fun _ hK5 => ?_
    refine c_true rfl ?_
    refine c_skip ?_
    refine x_then (hK5 _ _ ?_)
    refine c_seq fun _ hK6 => ?_
    refine c_block ?_
    refine c_seq fun _ hK7 => ?_
    refine c_region ?_
    refine o_step rfl (s_indexV (i := 0) (v := .int .u8 91) rfl rfl (by decide) rfl) ?_
    refine o_step rfl (s_assign rfl) ?_
    refine o_nil ?_
    refine x_then (hK7 _ _ ?_)
    refine c_seq fun _ hK8 => ?_
    refine c_region ?_
    refine o_step rfl (s_move rfl) ?_
    refine o_step rfl (s_move rfl) ?_
    refine o_step rfl (s_eql rfl rfl) ?_
    refine o_nil ?_
    refine x_then (hK8 _ _ ?_)
    refine c_if rfl (fun heq => ?_) (fun heq => ?_)
    · skip
      have hbe : b = 91 := u8_of (n := 91) (by omega)
      have hE : endM b = [sgn 91, sgn 46, sgn b, sgn 46, sgn 93] := if_pos (by simp [hbe])
      refine c_seq fun _ hK9 => ?_
      refine c_region ?_
      refine o_step rfl (s_move rfl) ?_
      refine o_bs (E := Eb) (xs := [91, 46, b, 46, 93]) (vs := [_, _, _, _, _]) rfl rfl rfl rfl rfl (by decide) (by decide) fun b13 S13 hS13 => ?_
      refine o_call (signs_fn (some ⟨b13, 0, none⟩) 5 [91, 46, b, 46, 93] (by simp)) rfl rfl rfl (by exact .nil) (fun w st => (hS13.rdk hiA).out w st) (fun v14 S14 ⟨a14, c14, hv14, hS14⟩ => ?_)
      subst hv14
      refine o_step rfl (s_assign rfl) ?_
      refine o_nil ?_
      refine x_then (hK9 _ _ ?_)
      refine c_ret ?_
      refine x_block_ret (x_then_ret (x_then_ret (x_block_ret (x_then_ret (?_)))))
      refine x_sub (Sub.refl _) (H' := S14) hzB ?_
      exact x_ret rfl (.tmp rfl (.nil)) (⟨_, _, by rw [hE]; rfl, by rw [hE]; exact hS14⟩)
    · skip
      have hbn : b ≠ 91 := fun e => heq (by rw [e]; rfl)
      refine c_skip ?_
      refine x_block ?_
      refine x_then (hK6 _ _ ?_)
      refine c_region ?_
      refine o_step rfl (s_add rfl rfl (by omega)) ?_
      refine o_step rfl (s_move rfl) ?_
      refine o_nil ?_
      exact x_then (x_inv 1 ⟨by omega, fun _ => hbn, fun _ => absurd ‹_› (by omega), fun _ => absurd ‹_› (by omega), fun _ => absurd ‹_› (by omega)⟩ (by first | omega | (dsimp only; omega)) sbA hzA)
  · skip
    have hne0 : b ≠ 91 := h0 (by decide)
    refine c_seq fun _ hK10 => ?_
    refine c_region ?_
    refine o_step rfl (s_lss_t rfl rfl (by omega)) ?_
    refine o_nil ?_
    refine x_then (hK10 _ _ ?_)
    refine c_seq fun _ hK11 => ?_
    refine c_true rfl ?_
    refine c_skip ?_
    refine x_then (hK11 _ _ ?_)
    refine c_seq fun _ hK12 => ?_
    refine c_block ?_
    refine c_seq fun _ hK13 => ?_
    refine c_region ?_
    refine o_step rfl (s_indexV (i := 1) (v := .int .u8 93) rfl rfl (by decide) rfl) ?_
    refine o_step rfl (s_assign rfl) ?_
    refine o_nil ?_
    refine x_then (hK13 _ _ ?_)
    refine c_seq fun _ hK14 => ?_
    refine c_region ?_
    refine o_step rfl (s_move rfl) ?_
    refine o_step rfl (s_move rfl) ?_
    refine o_step rfl (s_eql rfl rfl) ?_
    refine o_nil ?_
    refine x_then (hK14 _ _ ?_)
    refine c_if rfl (fun heq => ?_) (fun heq => ?_)
    · skip
      have hbe : b = 93 := u8_of (n := 93) (by omega)
      have hE : endM b = [sgn 91, sgn 46, sgn b, sgn 46, sgn 93] := if_pos (by simp [hbe])
      refine c_seq fun _ hK15 => ?_
      refine c_region ?_
      refine o_step rfl (s_move rfl) ?_
      refine o_bs (E := Eb) (xs := [91, 46, b, 46, 93]) (vs := [_, _, _, _, _]) rfl rfl rfl rfl rfl (by decide) (by decide) fun b13 S13 hS13 => ?_
      refine o_call (signs_fn (some ⟨b13, 0, none⟩) 5 [91, 46, b, 46, 93] (by simp)) rfl rfl rfl (by exact .nil) (fun w st => (hS13.rdk hiA).out w st) (fun v14 S14 ⟨a14, c14, hv14, hS14⟩ => ?_)
      subst hv14
      refine o_step rfl (s_assign rfl) ?_
      refine o_nil ?_
      refine x_then (hK15 _ _ ?_)
      refine c_ret ?_
      refine x_block_ret (x_then_ret (x_then_ret (x_block_ret (x_then_ret (?_)))))
      refine x_sub (Sub.refl _) (H' := S14) hzB ?_
      exact x_ret rfl (.tmp rfl (.nil)) (⟨_, _, by rw [hE]; rfl, by rw [hE]; exact hS14⟩)
    · skip
      have hbn : b ≠ 93 := fun e => heq (by rw [e]; rfl)
      refine c_skip ?_
      refine x_block ?_
      refine x_then (hK12 _ _ ?_)
      refine c_region ?_
      refine o_step rfl (s_add rfl rfl (by omega)) ?_
      refine o_step rfl (s_move rfl) ?_
      refine o_nil ?_
      exact x_then (x_inv 2 ⟨by omega, fun _ => hne0, fun _ => hbn, fun _ => absurd ‹_› (by omega), fun _ => absurd ‹_› (by omega)⟩ (by first | omega | (dsimp only; omega)) sbA hzA)
  · skip
    have hne0 : b ≠ 91 := h0 (by decide)
    have hne1 : b ≠ 93 := h1 (by decide)
    refine c_seq fun _ hK16 => ?_
    refine c_region ?_
    refine o_step rfl (s_lss_t rfl rfl (by omega)) ?_
    refine o_nil ?_
    refine x_then (hK16 _ _ ?_)
    refine c_seq fun _ hK17 => ?_
    refine c_true rfl ?_
    refine c_skip ?_
    refine x_then (hK17 _ _ ?_)
    refine c_seq fun _ hK18 => ?_
    refine c_block ?_
    refine c_seq fun _ hK19 => ?_
    refine c_region ?_
    refine o_step rfl (s_indexV (i := 2) (v := .int .u8 45) rfl rfl (by decide) rfl) ?_
    refine o_step rfl (s_assign rfl) ?_
    refine o_nil ?_
    refine x_then (hK19 _ _ ?_)
    refine c_seq fun _ hK20 => ?_
    refine c_region ?_
    refine o_step rfl (s_move rfl) ?_
    refine o_step rfl (s_move rfl) ?_
    refine o_step rfl (s_eql rfl rfl) ?_
    refine o_nil ?_
    refine x_then (hK20 _ _ ?_)
    refine c_if rfl (fun heq => ?_) (fun heq => ?_)
    · skip
      have hbe : b = 45 := u8_of (n := 45) (by omega)
      have hE : endM b = [sgn 91, sgn 46, sgn b, sgn 46, sgn 93] := if_pos (by simp [hbe])
      refine c_seq fun _ hK21 => ?_
      refine c_region ?_
      refine o_step rfl (s_move rfl) ?_
      refine o_bs (E := Eb) (xs := [91, 46, b, 46, 93]) (vs := [_, _, _, _, _]) rfl rfl rfl rfl rfl (by decide) (by decide) fun b13 S13 hS13 => ?_
      refine o_call (signs_fn (some ⟨b13, 0, none⟩) 5 [91, 46, b, 46, 93] (by simp)) rfl rfl rfl (by exact .nil) (fun w st => (hS13.rdk hiA).out w st) (fun v14 S14 ⟨a14, c14, hv14, hS14⟩ => ?_)
      subst hv14
      refine o_step rfl (s_assign rfl) ?_
      refine o_nil ?_
      refine x_then (hK21 _ _ ?_)
      refine c_ret ?_
      refine x_block_ret (x_then_ret (x_then_ret (x_block_ret (x_then_ret (?_)))))
      refine x_sub (Sub.refl _) (H' := S14) hzB ?_
      exact x_ret rfl (.tmp rfl (.nil)) (⟨_, _, by rw [hE]; rfl, by rw [hE]; exact hS14⟩)
    · skip
      have hbn : b ≠ 45 := fun e => heq (by rw [e]; rfl)
      refine c_skip ?_
      refine x_block ?_
      refine x_then (hK18 _ _ ?_)
      refine c_region ?_
      refine o_step rfl (s_add rfl rfl (by omega)) ?_
      refine o_step rfl (s_move rfl) ?_
      refine o_nil ?_
      exact x_then (x_inv 3 ⟨by omega, fun _ => hne0, fun _ => hne1, fun _ => hbn, fun _ => absurd ‹_› (by omega)⟩ (by first | omega | (dsimp only; omega)) sbA hzA)
  · skip
    have hne0 : b ≠ 91 := h0 (by decide)
    have hne1 : b ≠ 93 := h1 (by decide)
    have hne2 : b ≠ 45 := h2 (by decide)
    refine c_seq fun _ hK22 => ?_
    refine c_region ?_
    refine o_step rfl (s_lss_t rfl rfl (by omega)) ?_
    refine o_nil ?_
    refine x_then (hK22 _ _ ?_)
    refine c_seq fun _ hK23 => ?_
    refine c_true rfl ?_
    refine c_skip ?_
    refine x_then (hK23 _ _ ?_)
    refine c_seq fun _ hK24 => ?_
    refine c_block ?_
    refine c_seq fun _ hK25 => ?_
    refine c_region ?_
    refine o_step rfl (s_indexV (i := 3) (v := .int .u8 94) rfl rfl (by decide) rfl) ?_
    refine o_step rfl (s_assign rfl) ?_
    refine o_nil ?_
    refine x_then (hK25 _ _ ?_)
    refine c_seq fun _ hK26 => ?_
    refine c_region ?_
    refine o_step rfl (s_move rfl) ?_
    refine o_step rfl (s_move rfl) ?_
    refine o_step rfl (s_eql rfl rfl) ?_
    refine o_nil ?_
    refine x_then (hK26 _ _ ?_)
    refine c_if rfl (fun heq => ?_) (fun heq => ?_)
    · skip
      have hbe : b = 94 := u8_of (n := 94) (by omega)
      have hE : endM b = [sgn 91, sgn 46, sgn b, sgn 46, sgn 93] := if_pos (by simp [hbe])
      refine c_seq fun _ hK27 => ?_
      refine c_region ?_
      refine o_step rfl (s_move rfl) ?_
      refine o_bs (E := Eb) (xs := [91, 46, b, 46, 93]) (vs := [_, _, _, _, _]) rfl rfl rfl rfl rfl (by decide) (by decide) fun b13 S13 hS13 => ?_
      refine o_call (signs_fn (some ⟨b13, 0, none⟩) 5 [91, 46, b, 46, 93] (by simp)) rfl rfl rfl (by exact .nil) (fun w st => (hS13.rdk hiA).out w st) (fun v14 S14 ⟨a14, c14, hv14, hS14⟩ => ?_)
      subst hv14
      refine o_step rfl (s_assign rfl) ?_
      refine o_nil ?_
      refine x_then (hK27 _ _ ?_)
      refine c_ret ?_
      refine x_block_ret (x_then_ret (x_then_ret (x_block_ret (x_then_ret (?_)))))
      refine x_sub (Sub.refl _) (H' := S14) hzB ?_
      exact x_ret rfl (.tmp rfl (.nil)) (⟨_, _, by rw [hE]; rfl, by rw [hE]; exact hS14⟩)
    · skip
      have hbn : b ≠ 94 := fun e => heq (by rw [e]; rfl)
      refine c_skip ?_
      refine x_block ?_
      refine x_then (hK24 _ _ ?_)
      refine c_region ?_
      refine o_step rfl (s_add rfl rfl (by omega)) ?_
      refine o_step rfl (s_move rfl) ?_
      refine o_nil ?_
      exact x_then (x_inv 4 ⟨by omega, fun _ => hne0, fun _ => hne1, fun _ => hne2, fun _ => hbn⟩ (by first | omega | (dsimp only; omega)) sbA hzA)
  · skip
    have hne0 : b ≠ 91 := h0 (by decide)
    have hne1 : b ≠ 93 := h1 (by decide)
    have hne2 : b ≠ 45 := h2 (by decide)
    have hne3 : b ≠ 94 := h3 (by decide)
    have hE : endM b = [sgn b] := if_neg (by simp [hne0, hne1, hne2, hne3])
    refine c_seq fun _ hK28 => ?_
    refine c_region ?_
    refine o_step rfl (s_lss_f rfl rfl (by omega)) ?_
    refine o_nil ?_
    refine x_then (hK28 _ _ ?_)
    refine c_seq fun _ hK29 => ?_
    refine c_false rfl ?_
    refine c_exit ?_
    refine x_then_exit ?_
    refine x_then_exit ?_
    refine x_block_exit ?_
    refine x_then (hK2 _ _ ?_)
    refine c_seq fun _ hK30 => ?_
    refine c_region ?_
    refine o_step rfl (s_move rfl) ?_
    refine o_bs (E := Eb) (xs := [b]) (vs := [_]) rfl rfl rfl rfl rfl (by decide) (by decide) fun b17 S17 hS17 => ?_
    refine o_call (signs_fn (some ⟨b17, 0, none⟩) 1 [b] (by simp)) rfl rfl rfl (by exact .nil) (fun w st => (hS17.rdk hiA).out w st) (fun v18 S18 ⟨a18, c18, hv18, hS18⟩ => ?_)
    subst hv18
    refine o_step rfl (s_assign rfl) ?_
    refine o_nil ?_
    refine x_then (hK30 _ _ ?_)
    refine c_ret ?_
    refine ?_
    refine x_sub (Sub.refl _) (H' := S18) hzB ?_
    exact x_ret rfl (.tmp rfl (.nil)) (⟨_, _, by rw [hE]; rfl, by rw [hE]; exact hS18⟩)

theorem endN_fn (n : Nat) (hn : n < 256) : HL.Fn Tryd.prog 38 [.int .u8 n] (TbB []) [] (fun v S' => ∃ a' c', v = .slice a' (endM (UInt8.ofNat n)).length c' ∧ OwnS Em 2 35 (.slice a' (endM (UInt8.ofNat n)).length c') (endM (UInt8.ofNat n)) S') := by
  have h := end_fn (UInt8.ofNat n)
  rwa [UInt8.toNat_ofNat_of_lt' (by simpa [UInt8.size] using hn)] at h

theorem lsigns_fn (s : ByteArray) (hs : s.size ≤ 2147483647) : HL.Fn Tryd.prog 24 [.string s] (fun _ => True) [] (fun v S' => ∃ a' c', v = .slice a' (s.data.toList.map sgn).length c' ∧ OwnS Em 2 35 (.slice a' (s.data.toList.map sgn).length c') (s.data.toList.map sgn) S') := by
  refine fn_of Tryd.func24 rfl rfl rfl fun w0 hw => ?_
  refine c_seq fun _ hK1 => ?_
  refine c_region ?_
  refine o_step rfl (s_assign rfl) ?_
  refine o_nil ?_
  refine x_then (hK1 _ _ ?_)
  refine c_seq fun _ hK2 => ?_
  refine c_region ?_
  refine o_step rfl (s_assign rfl) ?_
  refine o_nil ?_
  refine x_then (hK2 _ _ ?_)
  refine c_seq fun _ hK3 => ?_
  refine c_seq fun _ hK4 => ?_
  refine c_region ?_
  refine o_step rfl (s_assign rfl) ?_
  refine o_nil ?_
  refine x_then (hK4 _ _ ?_)
  refine c_block ?_
  refine c_loop3 (fun (j : Nat) (q : Sl Mk) (S : Hp) => j ≤ s.size ∧ q.xs = (s.data.toList.take j).map sgn ∧ OwnS Em 2 35 (.slice q.a q.xs.length q.c) q.xs S) (fun (j : Nat) (q : Sl Mk) (S : Hp) => [(4, .int .i64 j), (3, .slice q.a q.xs.length q.c)]) [(0, _), (2, _)] (fun (j : Nat) (q : Sl Mk) (S : Hp) => S) (fun (j : Nat) (q : Sl Mk) (S : Hp) => s.size - j) 0 ⟨none, 0, []⟩ [] ⟨by omega, rfl, .nil⟩ sbA sbA hzA ?_
  rintro j q S ⟨hj, hq, hS⟩
  have hql : q.xs.length ≤ 2147483647 := by rw [hq, List.length_map, List.length_take]; omega
  refine c_seq fun _ hK5 => ?_
  refine c_seq fun _ hK6 => ?_
  refine c_region ?_
  refine o_step rfl (s_move rfl) ?_
  refine o_step rfl (s_move rfl) ?_
  refine o_step rfl (s_lenstr rfl) ?_
  refine o_step rfl (s_lss rfl rfl) ?_
  refine o_nil ?_
  refine x_then (hK6 _ _ ?_)
  refine c_if rfl (fun hlt => ?_) (fun hlt => ?_)
  · skip
    have hjl : j < s.data.toList.length := by simp only [Array.length_toList]; exact (show j < s.size by omega)
    refine c_skip ?_
    refine x_then (hK5 _ _ ?_)
    refine c_seq fun _ hK7 => ?_
    refine c_block ?_
    refine c_region ?_
    refine o_step rfl (s_move rfl) ?_
    refine o_step rfl (s_move rfl) ?_
    refine o_step rfl (s_move rfl) ?_
    refine o_step rfl (s_indexStr hjl rfl rfl) ?_
    refine o_step rfl (s_build (cs := [_, _]) (vs := [_]) rfl rfl (.cons rfl rfl rfl rfl rfl (.nil))) ?_
    refine o_bs (E := Em) (xs := [sgn (s.data.toList[j])]) (vs := [_]) rfl rfl rfl rfl rfl (by decide) (by decide) fun b16 S16 hS16 => ?_
    refine o_app hS (hS16.rdk hiA) rfl rfl rfl rfl (by simp; omega) (by simp; omega) rfl pkA fun a17 c17 S17 hS17 => ?_
    refine o_step rfl (s_assign rfl) ?_
    refine o_nil ?_
    refine x_block ?_
    refine x_then (hK7 _ _ ?_)
    refine c_region ?_
    refine o_step rfl (s_move rfl) ?_
    refine o_step rfl (s_add rfl rfl (by omega)) ?_
    refine o_step rfl (s_assign rfl) ?_
    refine o_nil ?_
    exact x_then (x_inv (j + 1, ⟨a17, c17, q.xs ++ [sgn (s.data.toList[j])]⟩, S17) ⟨by omega, by rw [hq, List.take_add_one, List.getElem?_eq_getElem hjl, List.map_append]; rfl, hS17⟩ (by first | omega | (dsimp only; omega)) sbA hzB)
  · skip
    have hje : s.data.toList.take j = s.data.toList := List.take_of_length_le (by simp only [Array.length_toList]; exact (show s.size ≤ j by omega))
    rw [hje] at hq
    refine c_exit ?_
    refine x_then_exit ?_
    refine x_then_exit ?_
    refine x_block_exit ?_
    refine x_then (hK3 _ _ ?_)
    refine c_seq fun _ hK8 => ?_
    refine c_region ?_
    refine o_step rfl (s_move rfl) ?_
    refine o_step rfl (s_assign rfl) ?_
    refine o_nil ?_
    refine x_then (hK8 _ _ ?_)
    refine c_ret ?_
    refine ?_
    exact x_ret rfl (.tmp rfl (.nil)) (⟨_, _, by rw [← hq]; rfl, by rw [← hq]; exact hS⟩)

theorem copyMarks_fn (a : Option Addr) (c : Nat) (l : List Mk) : HL.Fn Tryd.prog 15 [.slice a l.length c] (fun w => Rd Em w (.slice a l.length c) l ∧ l.length * 2 ≤ 140737488355328) [] (fun v S' => ∃ a' c', v = .slice a' l.length c' ∧ OwnS Em 2 35 (.slice a' l.length c') l S') := by
  refine fn_of Tryd.func15 rfl rfl rfl fun w0 hw => ?_
  have hsx := hw.1.sl
  have hbx := hsx.le
  have hw2 := hw.2
  refine c_seq fun _ hK1 => ?_
  refine c_region ?_
  refine o_step rfl (s_assign rfl) ?_
  refine o_nil ?_
  refine x_then (hK1 _ _ ?_)
  refine c_seq fun _ hK2 => ?_
  refine c_region ?_
  refine o_step rfl (s_assign rfl) ?_
  refine o_nil ?_
  refine x_then (hK2 _ _ ?_)
  refine c_seq fun _ hK3 => ?_
  refine c_region ?_
  refine o_step rfl (s_move rfl) ?_
  refine o_step rfl (s_move rfl) ?_
  refine o_app OwnS.nil (RdK.old0 hw.1) rfl rfl rfl rfl (by simp; omega) (by simp; omega) rfl pkA fun a6 c6 S6 hS6 => ?_
  simp only [List.nil_append] at hS6
  refine o_step rfl (s_assign rfl) ?_
  refine o_nil ?_
  refine x_then (hK3 _ _ ?_)
  refine c_ret ?_
  refine ?_
  refine x_sub (Sub.refl _) (H' := S6) hzB ?_
  exact x_ret rfl (.tmp rfl (.nil)) (⟨_, _, rfl, hS6⟩)
end Go.Proofs.YtafbigmneipkiaaDoor
