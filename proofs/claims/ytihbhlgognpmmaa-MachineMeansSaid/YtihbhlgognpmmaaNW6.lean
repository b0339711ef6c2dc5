/- Part of the proofs over this seat: see the text that holds the theorem. Conditions: each theorem bears its own. -/
import Derived.Test.YtihbhlgognpmmaaNW5
import Derived.Test.YtihbhlgognpmmaaMT10
namespace Go.Proofs.Ytihbhlgognpmmaa
open Go Go.HL Go.Proofs Go.HL.Kl Go.HL.Kl.Mc
theorem behinds_fn (ra : Option Addr) (rc : Nat) (re : List Nd) (hre : ∀ x ∈ re, -128 ≤ x.op ∧ x.op < 128) (x0 : Nd) (ks0 : F) (hp0 : Part re (.nd x0 ks0 .nil) 0 re.length) (hrl : re.length ≤ 1000000) : HL.Fn Try.prog 32 [.slice ra re.length rc] (fun w => Rd En w (.slice ra re.length rc) re) [] (fun v S' => ∃ b l, v = .slice (some ⟨b, 0, none⟩) re.length re.length ∧ OwnS Eix 1 3 (.slice (some ⟨b, 0, none⟩) re.length re.length) l S' ∧ EndsOk re 0 l) := by
  refine fn_of Try.func32 rfl rfl rfl fun w0 hw => ?_
  have hsl := hw.sl
  have hbl := hsl.le
  refine c_seq fun _ hK1 => ?_
  refine c_region ?_
  refine o_step rfl (s_assign rfl) ?_
  refine o_nil ?_
  refine x_then (hK1 _ _ ?_)
  refine c_seq fun _ hK2 => ?_
  refine c_region ?_
  refine o_step rfl (s_move rfl) ?_
  refine o_step rfl (s_len rfl) ?_
  refine o_make (E := Eix) (zx := 0) (n := re.length) rfl rfl rfl (by omega) (by omega) rfl fun b8 S8 hS8 => ?_
  refine o_step rfl (s_assign rfl) ?_
  refine o_nil ?_
  refine x_then (hK2 _ _ ?_)
  refine c_seq fun _ hK3 => ?_
  refine c_seq fun _ hK4 => ?_
  refine c_region ?_
  refine o_step rfl (s_move rfl) ?_
  refine o_step rfl (s_len rfl) ?_
  refine o_step rfl (s_sub rfl rfl (by omega)) ?_
  refine o_step rfl (s_assign rfl) ?_
  refine o_nil ?_
  refine x_then (hK4 _ _ ?_)
  refine c_block ?_
  refine c_loop3 (fun (c : Nat) (l : List Nat) (S : Hp) => c ≤ re.length ∧ OwnS Eix 1 3 (.slice (some ⟨b8, 0, none⟩) re.length re.length) l S ∧ EndsOk re c l) (fun (c : Nat) (l : List Nat) (S : Hp) => [(4, .int .i64 ((c : Int) - 1))]) [(0, _), (2, _), (3, _)] (fun (c : Nat) (l : List Nat) (S : Hp) => S) (fun (c : Nat) (l : List Nat) (S : Hp) => c) re.length _ _ ⟨by omega, hS8, .start List.length_replicate⟩ sbA sbA hzB ?_
  rintro c l S ⟨hc, hS, hE⟩
  have hls := hS.sl
  have hEl := hE.1
  rw [hE.1] at hls
  refine c_seq fun _ hK5 => ?_
  refine c_seq fun _ hK6 => ?_
  refine c_region ?_
  refine o_step rfl (s_move rfl) ?_
  by_cases hc1 : 1 ≤ c
  ·
   obtain ⟨a, rfl⟩ : ∃ a, c = a + 1 := ⟨c - 1, by omega⟩
   obtain ⟨x, ks, r0, ia, hpa⟩ := hp0.at _ _ _ a (Nat.zero_le _) (by omega)
   obtain ⟨hx, hpk, _⟩ := hpa.head
   have hok : ndOk x = true := hpa.wf.1
   have hk0 := ndOk_kids hok
   have hkn : (ks.num : Int) = x.kids := hpa.wf.2.1
   have hns := F.num_le ks
   have hpkl := hpk.le
   refine o_step rfl (step_cast (v' := .bool true) (s_geq rfl rfl) (by rw [decide_eq_true (by omega)])) ?_
   refine o_nil ?_
   refine x_then (hK6 _ _ ?_)
   refine c_true rfl ?_
   refine c_skip ?_
   refine x_then (hK5 _ _ ?_)
   refine c_seq fun _ hK7 => ?_
   refine c_block ?_
   refine c_seq fun _ hK8 => ?_
   refine c_region ?_
   refine o_step rfl (s_move rfl) ?_
   refine o_step rfl (s_add rfl rfl (by omega)) ?_
   refine o_step rfl (s_assign rfl) ?_
   refine o_nil ?_
   refine x_then (hK8 _ _ ?_)
   refine c_seq fun _ hK9 => ?_
   refine c_seq fun _ hK10 => ?_
   refine c_region ?_
   refine o_step rfl (s_move rfl) ?_
   refine o_step rfl (s_move rfl) ?_
   refine o_step rfl (s_idx rfl rfl hsl (by omega)) ?_
   refine o_step rfl (s_field rfl rfl (by decide)) ?_
   refine o_step rfl (s_ld rfl ((RdK.old0 hw).ld a 8 hx rfl (by decide) (by omega))) ?_
   refine o_step rfl (s_move rfl) ?_
   refine o_nil ?_
   refine x_then (hK10 _ _ ?_)
   refine c_block ?_
   refine c_loop3 (fun (k : Nat) (to : Nat) (r1 : F) => k + r1.num = ks.num ∧ Part re r1 to (a + 1 + ks.size) ∧ a + 1 ≤ to) (fun (k : Nat) (to : Nat) (r1 : F) => [(23, .int .i64 k), (5, .int .i64 to)]) [(0, _), (2, _), (3, _), (4, _), (12, _), (13, _), (16, _), (17, _), (18, _), (19, _), (20, _), (21, _), (22, _)] (fun (k : Nat) (to : Nat) (r1 : F) => S) (fun (k : Nat) (to : Nat) (r1 : F) => ks.num - k) 0 (a + 1) ks ⟨by omega, hpk, Nat.le_refl _⟩ (by exact Sub.cons rfl (Sub.cons' rfl (by congr 1; omega) .nil)) sbA hzB ?_
   rintro k to r1 ⟨hkr, hpr, hto⟩
   refine c_seq fun _ hK11 => ?_
   refine c_region ?_
   by_cases hkl : (k : Int) < x.kids
   ·
    obtain ⟨y, ks1, r2, rfl⟩ : ∃ y ks1 r2, r1 = F.nd y ks1 r2 := by cases r1 with | nil => simp [F.num] at hkr; omega | nd y a b => exact ⟨y, a, b, rfl⟩
    obtain ⟨hy, hpy, hpt⟩ := hpr.head
    have hto2 := (List.getElem?_eq_some_iff.1 hy).1
    have hge := hE.2 to y ks1 r2 _ (by omega) hpr
    have hg2 := hpy.le
    refine o_step rfl (step_cast (v' := .bool true) (s_lss rfl rfl) (by rw [decide_eq_true (by omega)])) ?_
    refine o_nil ?_
    refine x_then (hK11 _ _ ?_)
    refine c_seq fun _ hK12 => ?_
    refine c_true rfl ?_
    refine c_skip ?_
    refine x_then (hK12 _ _ ?_)
    refine c_seq fun _ hK13 => ?_
    refine c_block ?_
    refine c_region ?_
    refine o_step rfl (s_move rfl) ?_
    refine o_step rfl (s_move rfl) ?_
    refine o_step rfl (s_idx rfl rfl hls (by omega)) ?_
    refine o_step rfl (s_ld rfl ((hS.rdk hiA).ld to 0 hge rfl (by decide) (by omega))) ?_
    refine o_step rfl (s_assign rfl) ?_
    refine o_nil ?_
    refine x_block ?_
    refine x_then (hK13 _ _ ?_)
    refine c_region ?_
    refine o_step rfl (s_add rfl rfl (by omega)) ?_
    refine o_step rfl (s_move rfl) ?_
    refine o_nil ?_
    exact x_then (x_inv (k + 1, to + 1 + ks1.size, r2) ⟨by simp only [F.num] at hkr; dsimp only; omega, hpt, by dsimp only; omega⟩ (by first | omega | (dsimp only; omega)) sbA hzB)
   ·
    obtain rfl : r1 = F.nil := by cases r1 with | nil => rfl | nd y a b => simp only [F.num] at hkr; omega
    have hto : to = a + 1 + ks.size := by have := hpr.len; simp [F.size] at this; omega
    subst hto
    refine o_step rfl (step_cast (v' := .bool false) (s_lss rfl rfl) (by rw [decide_eq_false (by omega)])) ?_
    refine o_nil ?_
    refine x_then (hK11 _ _ ?_)
    refine c_seq fun _ hK14 => ?_
    refine c_false rfl ?_
    refine c_exit ?_
    refine x_then_exit ?_
    refine x_then_exit ?_
    refine x_block_exit ?_
    refine x_then (hK9 _ _ ?_)
    refine c_region ?_
    refine o_step rfl (s_move rfl) ?_
    refine o_step rfl (s_move rfl) ?_
    refine o_step rfl (s_move rfl) ?_
    refine o_step rfl (s_idx rfl rfl hls (by omega)) ?_
    refine o_stS1 a (a + 1 + ks.size) hS pkA rfl rfl rfl (by omega) (by omega) fun S' hS' => ?_
    refine o_nil ?_
    refine x_block ?_
    refine x_then (hK7 _ _ ?_)
    refine c_region ?_
    refine o_step rfl (s_move rfl) ?_
    refine o_step rfl (s_sub rfl rfl (by omega)) ?_
    refine o_step rfl (s_assign rfl) ?_
    refine o_nil ?_
    exact x_then (x_inv (a, _, _) ⟨by omega, hS', hE.step hpa⟩ (by first | omega | (dsimp only; omega)) (by exact Sub.cons' rfl (by congr 1; omega) sbA) hzB)
  ·
   have hc0 : c = 0 := by omega
   refine o_step rfl (step_cast (v' := .bool false) (s_geq rfl rfl) (by rw [decide_eq_false (by omega)])) ?_
   refine o_nil ?_
   refine x_then (hK6 _ _ ?_)
   refine c_false rfl ?_
   refine c_exit ?_
   refine x_then_exit ?_
   refine x_then_exit ?_
   refine x_block_exit ?_
   refine x_then (hK3 _ _ ?_)
   refine c_seq fun _ hK15 => ?_
   refine c_region ?_
   refine o_step rfl (s_move rfl) ?_
   refine o_step rfl (s_assign rfl) ?_
   refine o_nil ?_
   refine x_then (hK15 _ _ ?_)
   refine c_ret ?_
   refine ?_
   exact x_ret rfl (.tmp rfl (.nil)) (⟨b8, l, rfl, hS, by rw [hc0] at hE; exact hE⟩)
end Go.Proofs.Ytihbhlgognpmmaa
