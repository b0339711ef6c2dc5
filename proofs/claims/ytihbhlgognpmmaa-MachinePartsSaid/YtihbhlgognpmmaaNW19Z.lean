/- Part of the proofs over this seat: see the text that holds the theorem. Conditions: each theorem bears its own. -/
import Derived.Test.YtihbhlgognpmmaaNF1Z
import Derived.Test.YtihbhlgognpmmaaMT4Z
import Derived.Test.YtihbhlgognpmmaaMT19Z
import Derived.Test.YtihbhlgognpmmaaNW15Z
namespace Go.Proofs.Ytihbhlgognpmmaa
open Go Go.HL Go.Proofs Go.HL.Kl Go.HL.Kl.Mc
theorem behind_fn (ra : Option Addr) (rc : Nat) (re : List Nd) (x : Nd) (ks : F) (i i1 : Nat) (hp : Part re (.nd x ks .nil) i i1) : HL.Fn Try.prog 50 [.slice ra re.length rc, .int .i64 i] (fun w => Rd En w (.slice ra re.length rc) re) [] (fun v _ => v = .int .i64 i1) := by
  refine fn_of Try.func50 rfl rfl rfl fun w0 hw => ?_
  have hsl := hw.sl
  have hbl := hsl.le
  refine c_seq fun _ hK1 => ?_
  refine c_region ?_
  refine o_step rfl (s_assign rfl) ?_
  refine o_nil ?_
  refine x_then (hK1 _ _ ?_)
  refine c_seq fun _ hK2 => ?_
  refine c_region ?_
  refine o_step rfl (s_assign rfl) ?_
  refine o_nil ?_
  refine x_then (hK2 _ _ ?_)
  refine c_seq fun _ hK3 => ?_
  refine c_block ?_
  refine c_loop2 (fun (g : F) (p : Nat) => Part re g p i1) (fun (g : F) (p : Nat) => [(5, .int .i64 g.num), (1, .int .i64 p)]) [(0, _), (4, _)] (fun (g : F) (p : Nat) => _) (fun (g : F) (p : Nat) => i1 - p) (.nd x ks .nil) i hp (by exact Sub.cons' rfl (by rw [F.num, F.num]; rfl) sbA) sbA hzB ?_
  rintro g p hpg
  have hgl := hpg.len
  have hgle := hpg.le
  have hgn := F.num_le g
  refine c_seq fun _ hK4 => ?_
  refine c_seq fun _ hK5 => ?_
  refine c_region ?_
  refine o_step rfl (s_move rfl) ?_
  by_cases hg : (g.num : Int) > 0
  ·
   obtain ⟨y, js, r, rfl⟩ : ∃ y js r, g = F.nd y js r := by cases g with | nil => simp [F.num] at hg | nd y a b => exact ⟨y, a, b, rfl⟩
   have hy := hpg.head.1
   have hyl := (List.getElem?_eq_some_iff.1 hy).1
   have hkn : (js.num : Int) = y.kids := hpg.wf.2.1
   have hjn := F.num_le js
   simp only [F.num] at hg hgn ⊢
   simp only [F.size] at hgl hgn
   refine o_step rfl (step_cast (v' := .bool true) (s_gtr rfl rfl) (by rw [decide_eq_true (by omega)])) ?_
   refine o_nil ?_
   refine x_then (hK5 _ _ ?_)
   refine c_true rfl ?_
   refine c_skip ?_
   refine x_then (hK4 _ _ ?_)
   refine c_block ?_
   refine c_seq fun _ hK6 => ?_
   refine c_region ?_
   refine o_step rfl (s_move rfl) ?_
   refine o_step rfl (s_sub rfl rfl (by omega)) ?_
   refine o_step rfl (s_move rfl) ?_
   refine o_step rfl (s_move rfl) ?_
   refine o_step rfl (s_idx rfl rfl hsl (by omega)) ?_
   refine o_step rfl (s_field rfl rfl (by decide)) ?_
   refine o_step rfl (s_ld rfl ((RdK.old0 hw).ld p 8 hy rfl (by decide) (by omega))) ?_
   refine o_step rfl (s_add rfl rfl (by omega)) ?_
   refine o_step rfl (s_assign rfl) ?_
   refine o_nil ?_
   refine x_then (hK6 _ _ ?_)
   refine c_region ?_
   refine o_step rfl (s_move rfl) ?_
   refine o_step rfl (s_add rfl rfl (by omega)) ?_
   refine o_step rfl (s_assign rfl) ?_
   refine o_nil ?_
   refine x_block ?_
   exact x_then (x_inv ((js.app r), p + 1) hpg.down (by dsimp only; omega) (by exact Sub.cons' rfl (by rw [F.num_app, ← hkn]; congr 1; omega) sbA) hzB)
  ·
   obtain rfl : g = F.nil := F.num_nil (by omega)
   simp only [F.size] at hgl
   refine o_step rfl (step_cast (v' := .bool false) (s_gtr rfl rfl) (by rw [decide_eq_false (by omega)])) ?_
   refine o_nil ?_
   refine x_then (hK5 _ _ ?_)
   refine c_false rfl ?_
   refine c_exit ?_
   refine x_then_exit ?_
   refine x_then_exit ?_
   refine x_block_exit ?_
   refine x_then (hK3 _ _ ?_)
   refine c_seq fun _ hK7 => ?_
   refine c_region ?_
   refine o_step rfl (s_move rfl) ?_
   refine o_step rfl (s_assign rfl) ?_
   refine o_nil ?_
   refine x_then (hK7 _ _ ?_)
   refine c_ret ?_
   refine ?_
   exact x_ret rfl (.tmp rfl (.nil)) ((congrArg (Value.int .i64) (by omega)))

theorem both_fn (a1 a2 : Option Addr) (c1 c2 : Nat) (l1 l2 : List Bool) (hl : l2.length = l1.length) (hb : l1.length ≤ 2000000) : HL.Fn Try.prog 51 [.slice a1 l1.length c1, .slice a2 l2.length c2] (fun w => Rd Ebo w (.slice a1 l1.length c1) l1 ∧ Rd Ebo w (.slice a2 l2.length c2) l2) [] (fun v S' => ∃ a c, v = .tuple #[.slice a (orL l1 l2).length c, .bool (moreB l1 l2)] ∧ OwnS Ebo 1 4 (.slice a (orL l1 l2).length c) (orL l1 l2) S') := by
  refine fn_of Try.func51 rfl rfl rfl fun w0 hw => ?_
  obtain ⟨h1, h2⟩ := hw
  have hs1 := h1.sl
  have hs2 := h2.sl
  have hol := orL_len l1 l2
  refine c_seq fun _ hK1 => ?_
  refine c_region ?_
  refine o_step rfl (s_assign rfl) ?_
  refine o_step rfl (s_assign rfl) ?_
  refine o_nil ?_
  refine x_then (hK1 _ _ ?_)
  refine c_seq fun _ hK2 => ?_
  refine c_region ?_
  refine o_step rfl (s_move rfl) ?_
  refine o_step rfl (s_len rfl) ?_
  refine o_make (E := Ebo) (zx := false) (n := l1.length) rfl rfl rfl (by omega) (by omega) rfl fun b11 S11 hS11 => ?_
  refine o_step rfl (s_assign rfl) ?_
  refine o_nil ?_
  refine x_then (hK2 _ _ ?_)
  refine c_seq fun _ hK3 => ?_
  refine c_region ?_
  refine o_step rfl (s_assign rfl) ?_
  refine o_nil ?_
  refine x_then (hK3 _ _ ?_)
  refine c_seq fun _ hK4 => ?_
  refine c_seq fun _ hK5 => ?_
  refine c_region ?_
  refine o_step rfl (s_assign rfl) ?_
  refine o_nil ?_
  refine x_then (hK5 _ _ ?_)
  refine c_block ?_
  refine c_loop3 (fun (j : Nat) (l : List Bool) (S : Hp) => j ≤ l1.length ∧ Tab.Fill (orF l1 l2) l1.length j l ∧ OwnS Ebo 1 4 (.slice (some ⟨b11, 0, none⟩) l1.length l1.length) l S) (fun (j : Nat) (l : List Bool) (S : Hp) => [(8, .int .i64 j), (7, .bool (moreTo l1 l2 j))]) [(0, _), (1, _), (4, _), (5, _), (6, _)] (fun (j : Nat) (l : List Bool) (S : Hp) => S) (fun (j : Nat) (l : List Bool) (S : Hp) => l1.length - j) 0 _ _ ⟨by omega, .zero List.length_replicate, hS11⟩ sbA sbA hzB ?_
  rintro j l S ⟨hj, hf, hS⟩
  have hSl := hS.sl
  rw [hf.len] at hSl
  refine c_seq fun _ hK6 => ?_
  refine c_seq fun _ hK7 => ?_
  refine c_region ?_
  refine o_step rfl (s_move rfl) ?_
  refine o_step rfl (s_move rfl) ?_
  refine o_step rfl (s_len rfl) ?_
  by_cases hj1 : j < l1.length
  ·
   have hj2 : j < l2.length := by omega
   refine o_step rfl (step_cast (v' := .bool true) (s_lss rfl rfl) (by rw [decide_eq_true (by omega)])) ?_
   refine o_nil ?_
   refine x_then (hK7 _ _ ?_)
   refine c_true rfl ?_
   refine c_skip ?_
   refine x_then (hK6 _ _ ?_)
   refine c_seq fun _ hK8 => ?_
   refine c_block ?_
   refine c_seq fun _ hK9 => ?_
   refine c_region ?_
   refine o_step rfl (s_move rfl) ?_
   refine o_step rfl (s_move rfl) ?_
   refine o_step rfl (s_move rfl) ?_
   refine o_step rfl (s_move rfl) ?_
   refine o_step rfl (s_idx rfl rfl hs1 (by omega)) ?_
   by_cases ha : bo0 l1 j = true
   ·
    refine o_step rfl (step_cast (v' := .bool true) (s_ld rfl ((RdK.old0 h1).ld j 0 (bo0_get hj1) rfl (by decide) (by omega))) (by rw [ha])) ?_
    refine o_step rfl (s_move rfl) ?_
    refine o_no rfl rfl rfl rfl ?_
    refine o_no rfl rfl rfl rfl ?_
    refine o_no rfl rfl rfl rfl ?_
    refine o_no rfl rfl rfl rfl ?_
    refine o_step rfl (s_pick_t rfl rfl) ?_
    refine o_step rfl (s_idx rfl rfl hSl (by omega)) ?_
    refine o_stS1 j _ hS pkA rfl rfl rfl (by rw [hf.len]; omega) (by omega) fun S' hS' => ?_
    refine o_nil ?_
    refine x_then (hK9 _ _ ?_)
    refine c_region ?_
    by_cases hm : moreTo l1 l2 j = true
    ·
     refine o_step rfl (step_cast (v' := .bool true) (s_move rfl) (by rw [hm])) ?_
     refine o_step rfl (s_move rfl) ?_
     refine o_no rfl rfl rfl rfl ?_
     refine o_no rfl rfl rfl rfl ?_
     refine o_no rfl rfl rfl rfl ?_
     refine o_no rfl rfl rfl rfl ?_
     refine o_no rfl rfl rfl rfl ?_
     refine o_noU rfl rfl rfl ?_
     refine o_noU rfl rfl rfl ?_
     refine o_noU rfl rfl rfl ?_
     refine o_noU rfl rfl rfl ?_
     refine o_noU rfl rfl rfl ?_
     refine o_no rfl rfl rfl rfl ?_
     refine o_step rfl (s_pick_t rfl rfl) ?_
     refine o_step rfl (s_assign rfl) ?_
     refine o_nil ?_
     refine x_block ?_
     refine x_then (hK8 _ _ ?_)
     refine c_region ?_
     refine o_step rfl (s_move rfl) ?_
     refine o_step rfl (s_add rfl rfl (by omega)) ?_
     refine o_step rfl (s_assign rfl) ?_
     refine o_nil ?_
     exact x_then (x_inv (j + 1, _, _) ⟨by omega, hf.step (by omega) (by rw [orF, ha]; rfl), hS'⟩ (by first | omega | (dsimp only; omega)) (by exact Sub.cons rfl (Sub.cons' rfl (congrArg Value.bool (moreTo_yes hm).symm) sbA)) hzB)
    ·
     have hmf : moreTo l1 l2 j = false := by simpa using hm
     refine o_step rfl (step_cast (v' := .bool false) (s_move rfl) (by rw [hmf])) ?_
     refine o_step rfl (s_move rfl) ?_
     refine o_yes rfl rfl ?_
     refine o_step rfl (s_move rfl) ?_
     refine o_yes rfl rfl ?_
     refine o_step rfl (s_move rfl) ?_
     refine o_yes rfl rfl ?_
     refine o_step rfl (s_idx rfl rfl hs2 (by omega)) ?_
     refine o_yes rfl rfl ?_
     by_cases hb : bo0 l2 j = true
     ·
      refine o_step rfl (step_cast (v' := .bool true) (s_ld rfl ((RdK.old0 h2).ld j 0 (bo0_get hj2) rfl (by decide) (by omega))) (by rw [hb])) ?_
      refine o_yes rfl rfl ?_
      refine o_step rfl (s_move rfl) ?_
      refine o_yes rfl rfl ?_
      refine o_step rfl (s_move rfl) ?_
      refine o_yes rfl rfl ?_
      refine o_step rfl (s_move rfl) ?_
      refine o_yes rfl rfl ?_
      refine o_step rfl (s_idx rfl rfl hs1 (by omega)) ?_
      refine o_yes rfl rfl ?_
      refine o_step rfl (s_ld rfl ((RdK.old0 h1).ld j 0 (bo0_get hj1) rfl (by decide) (by omega))) ?_
      refine o_yes rfl rfl ?_
      refine o_step rfl (s_not rfl) ?_
      refine o_yes rfl rfl ?_
      refine o_step rfl (s_pick_t rfl rfl) ?_
      refine o_step rfl (s_pick_f rfl rfl) ?_
      refine o_step rfl (s_assign rfl) ?_
      refine o_nil ?_
      refine x_block ?_
      refine x_then (hK8 _ _ ?_)
      refine c_region ?_
      refine o_step rfl (s_move rfl) ?_
      refine o_step rfl (s_add rfl rfl (by omega)) ?_
      refine o_step rfl (s_assign rfl) ?_
      refine o_nil ?_
      exact x_then (x_inv (j + 1, _, _) ⟨by omega, hf.step (by omega) (by rw [orF, ha]; rfl), hS'⟩ (by first | omega | (dsimp only; omega)) (by exact Sub.cons rfl (Sub.cons' rfl (congrArg Value.bool (moreTo_no hmf (by rw [hb, ha]; rfl)).symm) sbA)) hzB)
     ·
      have hbf : bo0 l2 j = false := by simpa using hb
      refine o_step rfl (step_cast (v' := .bool false) (s_ld rfl ((RdK.old0 h2).ld j 0 (bo0_get hj2) rfl (by decide) (by omega))) (by rw [hbf])) ?_
      refine o_yes rfl rfl ?_
      refine o_step rfl (s_move rfl) ?_
      refine o_no rfl rfl rfl rfl ?_
      refine o_no rfl rfl rfl rfl ?_
      refine o_no rfl rfl rfl rfl ?_
      refine o_no rfl rfl rfl rfl ?_
      refine o_no rfl rfl rfl rfl ?_
      refine o_yes rfl rfl ?_
      refine o_step rfl (s_pick_f rfl rfl) ?_
      refine o_step rfl (s_pick_f rfl rfl) ?_
      refine o_step rfl (s_assign rfl) ?_
      refine o_nil ?_
      refine x_block ?_
      refine x_then (hK8 _ _ ?_)
      refine c_region ?_
      refine o_step rfl (s_move rfl) ?_
      refine o_step rfl (s_add rfl rfl (by omega)) ?_
      refine o_step rfl (s_assign rfl) ?_
      refine o_nil ?_
      exact x_then (x_inv (j + 1, _, _) ⟨by omega, hf.step (by omega) (by rw [orF, ha]; rfl), hS'⟩ (by first | omega | (dsimp only; omega)) (by exact Sub.cons rfl (Sub.cons' rfl (congrArg Value.bool (moreTo_no hmf (by rw [hbf]; rfl)).symm) sbA)) hzB)
   ·
    have haf : bo0 l1 j = false := by simpa using ha
    refine o_step rfl (step_cast (v' := .bool false) (s_ld rfl ((RdK.old0 h1).ld j 0 (bo0_get hj1) rfl (by decide) (by omega))) (by rw [haf])) ?_
    refine o_step rfl (s_move rfl) ?_
    refine o_yes rfl rfl ?_
    refine o_step rfl (s_move rfl) ?_
    refine o_yes rfl rfl ?_
    refine o_step rfl (s_move rfl) ?_
    refine o_yes rfl rfl ?_
    refine o_step rfl (s_idx rfl rfl hs2 (by omega)) ?_
    refine o_yes rfl rfl ?_
    refine o_step rfl (s_ld rfl ((RdK.old0 h2).ld j 0 (bo0_get hj2) rfl (by decide) (by omega))) ?_
    refine o_step rfl (s_pick_f rfl rfl) ?_
    refine o_step rfl (s_idx rfl rfl hSl (by omega)) ?_
    refine o_stS1 j _ hS pkA rfl rfl rfl (by rw [hf.len]; omega) (by omega) fun S' hS' => ?_
    refine o_nil ?_
    refine x_then (hK9 _ _ ?_)
    refine c_region ?_
    by_cases hm : moreTo l1 l2 j = true
    ·
     refine o_step rfl (step_cast (v' := .bool true) (s_move rfl) (by rw [hm])) ?_
     refine o_step rfl (s_move rfl) ?_
     refine o_no rfl rfl rfl rfl ?_
     refine o_no rfl rfl rfl rfl ?_
     refine o_no rfl rfl rfl rfl ?_
     refine o_no rfl rfl rfl rfl ?_
     refine o_no rfl rfl rfl rfl ?_
     refine o_noU rfl rfl rfl ?_
     refine o_noU rfl rfl rfl ?_
     refine o_noU rfl rfl rfl ?_
     refine o_noU rfl rfl rfl ?_
     refine o_noU rfl rfl rfl ?_
     refine o_no rfl rfl rfl rfl ?_
     refine o_step rfl (s_pick_t rfl rfl) ?_
     refine o_step rfl (s_assign rfl) ?_
     refine o_nil ?_
     refine x_block ?_
     refine x_then (hK8 _ _ ?_)
     refine c_region ?_
     refine o_step rfl (s_move rfl) ?_
     refine o_step rfl (s_add rfl rfl (by omega)) ?_
     refine o_step rfl (s_assign rfl) ?_
     refine o_nil ?_
     exact x_then (x_inv (j + 1, _, _) ⟨by omega, hf.step (by omega) (by rw [orF, haf]; rfl), hS'⟩ (by first | omega | (dsimp only; omega)) (by exact Sub.cons rfl (Sub.cons' rfl (congrArg Value.bool (moreTo_yes hm).symm) sbA)) hzB)
    ·
     have hmf : moreTo l1 l2 j = false := by simpa using hm
     refine o_step rfl (step_cast (v' := .bool false) (s_move rfl) (by rw [hmf])) ?_
     refine o_step rfl (s_move rfl) ?_
     refine o_yes rfl rfl ?_
     refine o_step rfl (s_move rfl) ?_
     refine o_yes rfl rfl ?_
     refine o_step rfl (s_move rfl) ?_
     refine o_yes rfl rfl ?_
     refine o_step rfl (s_idx rfl rfl hs2 (by omega)) ?_
     refine o_yes rfl rfl ?_
     by_cases hb : bo0 l2 j = true
     ·
      refine o_step rfl (step_cast (v' := .bool true) (s_ld rfl ((RdK.old0 h2).ld j 0 (bo0_get hj2) rfl (by decide) (by omega))) (by rw [hb])) ?_
      refine o_yes rfl rfl ?_
      refine o_step rfl (s_move rfl) ?_
      refine o_yes rfl rfl ?_
      refine o_step rfl (s_move rfl) ?_
      refine o_yes rfl rfl ?_
      refine o_step rfl (s_move rfl) ?_
      refine o_yes rfl rfl ?_
      refine o_step rfl (s_idx rfl rfl hs1 (by omega)) ?_
      refine o_yes rfl rfl ?_
      refine o_step rfl (s_ld rfl ((RdK.old0 h1).ld j 0 (bo0_get hj1) rfl (by decide) (by omega))) ?_
      refine o_yes rfl rfl ?_
      refine o_step rfl (s_not rfl) ?_
      refine o_yes rfl rfl ?_
      refine o_step rfl (s_pick_t rfl rfl) ?_
      refine o_step rfl (s_pick_f rfl rfl) ?_
      refine o_step rfl (s_assign rfl) ?_
      refine o_nil ?_
      refine x_block ?_
      refine x_then (hK8 _ _ ?_)
      refine c_region ?_
      refine o_step rfl (s_move rfl) ?_
      refine o_step rfl (s_add rfl rfl (by omega)) ?_
      refine o_step rfl (s_assign rfl) ?_
      refine o_nil ?_
      exact x_then (x_inv (j + 1, _, _) ⟨by omega, hf.step (by omega) (by rw [orF, haf]; rfl), hS'⟩ (by first | omega | (dsimp only; omega)) (by exact Sub.cons rfl (Sub.cons' rfl (congrArg Value.bool (moreTo_no hmf (by rw [hb, haf]; rfl)).symm) sbA)) hzB)
     ·
      have hbf : bo0 l2 j = false := by simpa using hb
      refine o_step rfl (step_cast (v' := .bool false) (s_ld rfl ((RdK.old0 h2).ld j 0 (bo0_get hj2) rfl (by decide) (by omega))) (by rw [hbf])) ?_
      refine o_yes rfl rfl ?_
      refine o_step rfl (s_move rfl) ?_
      refine o_no rfl rfl rfl rfl ?_
      refine o_no rfl rfl rfl rfl ?_
      refine o_no rfl rfl rfl rfl ?_
      refine o_no rfl rfl rfl rfl ?_
      refine o_no rfl rfl rfl rfl ?_
      refine o_yes rfl rfl ?_
      refine o_step rfl (s_pick_f rfl rfl) ?_
      refine o_step rfl (s_pick_f rfl rfl) ?_
      refine o_step rfl (s_assign rfl) ?_
      refine o_nil ?_
      refine x_block ?_
      refine x_then (hK8 _ _ ?_)
      refine c_region ?_
      refine o_step rfl (s_move rfl) ?_
      refine o_step rfl (s_add rfl rfl (by omega)) ?_
      refine o_step rfl (s_assign rfl) ?_
      refine o_nil ?_
      exact x_then (x_inv (j + 1, _, _) ⟨by omega, hf.step (by omega) (by rw [orF, haf]; rfl), hS'⟩ (by first | omega | (dsimp only; omega)) (by exact Sub.cons rfl (Sub.cons' rfl (congrArg Value.bool (moreTo_no hmf (by rw [hbf]; rfl)).symm) sbA)) hzB)
  ·
   obtain rfl : j = l1.length := by omega
   have hd : l = orL l1 l2 := hf.done (Nat.le_refl _)
   subst hd
   refine o_step rfl (step_cast (v' := .bool false) (s_lss rfl rfl) (by rw [decide_eq_false (by omega)])) ?_
   refine o_nil ?_
   refine x_then (hK7 _ _ ?_)
   refine c_false rfl ?_
   refine c_exit ?_
   refine x_then_exit ?_
   refine x_then_exit ?_
   refine x_block_exit ?_
   refine x_then (hK4 _ _ ?_)
   refine c_seq fun _ hK10 => ?_
   refine c_region ?_
   refine o_step rfl (s_move rfl) ?_
   refine o_step rfl (s_move rfl) ?_
   refine o_step rfl (s_assign rfl) ?_
   refine o_step rfl (s_assign rfl) ?_
   refine o_nil ?_
   refine x_then (hK10 _ _ ?_)
   refine c_ret ?_
   refine ?_
   refine x_sub (Sub.refl _) (H' := S) hzB ?_
   exact x_ret rfl (.tmp rfl (.tmp rfl (.nil))) (⟨_, _, by rw [hol]; rfl, by rw [hol]; exact hS⟩)

theorem eqBools_fn (a a2 : Option Addr) (c c2 : Nat) (xs ys : List Bool) : HL.Fn Try.prog 14 [.slice a xs.length c, .slice a2 ys.length c2] (fun w => Rd Ebo w (.slice a xs.length c) xs ∧ Rd Ebo w (.slice a2 ys.length c2) ys) [] (fun v _ => v = .bool (decide (xs = ys))) := by
  refine fn_of Try.func14 rfl rfl rfl fun w0 hw => ?_
  obtain ⟨hx, hy⟩ := hw
  have hsx := hx.sl
  have hsy := hy.sl
  have hbx := hsx.le
  have hby := hsy.le
  refine c_seq fun _ hK1 => ?_
  refine c_region ?_
  refine o_step rfl (s_assign rfl) ?_
  refine o_nil ?_
  refine x_then (hK1 _ _ ?_)
  refine c_seq fun _ hK2 => ?_
  refine c_seq fun _ hK3 => ?_
  refine c_region ?_
  refine o_step rfl (s_move rfl) ?_
  refine o_step rfl (s_len rfl) ?_
  refine o_step rfl (s_move rfl) ?_
  refine o_step rfl (s_len rfl) ?_
  refine o_step rfl (s_neq rfl rfl) ?_
  refine o_nil ?_
  refine x_then (hK3 _ _ ?_)
  refine c_if rfl (fun hl => ?_) (fun hl => ?_)
  ·
   refine c_seq fun _ hK4 => ?_
   refine c_region ?_
   refine o_step rfl (s_assign rfl) ?_
   refine o_nil ?_
   refine x_then (hK4 _ _ ?_)
   refine c_ret ?_
   refine x_then_ret (?_)
   exact x_ret rfl (.tmp rfl (.nil)) ((congrArg Value.bool (decide_eq_false (by intro e; subst e; omega)).symm))
  ·
   refine c_skip ?_
   refine x_then (hK2 _ _ ?_)
   refine c_seq fun _ hK5 => ?_
   refine c_seq fun _ hK6 => ?_
   refine c_region ?_
   refine o_step rfl (s_assign rfl) ?_
   refine o_nil ?_
   refine x_then (hK6 _ _ ?_)
   refine c_block ?_
   -- not carried: 4
   refine c_loopB (fun (j : Nat) => j ≤ xs.length ∧ ∀ i, i < j → xs[i]? = ys[i]?) (fun (j : Nat) => [(5, .int .i64 j)]) [(0, _), (1, _)] (fun (j : Nat) => _) (fun (j : Nat) => xs.length - j) 0 ⟨by omega, fun i hi => by omega⟩ sbA sbA hzB ?_
   rintro j ⟨hj, hjt⟩
   refine c_seq fun _ hK7 => ?_
   refine c_seq fun _ hK8 => ?_
   refine c_region ?_
   refine o_step rfl (s_move rfl) ?_
   refine o_step rfl (s_move rfl) ?_
   refine o_step rfl (s_len rfl) ?_
   refine o_step rfl (s_lss rfl rfl) ?_
   refine o_nil ?_
   refine x_then (hK8 _ _ ?_)
   refine c_if rfl (fun hlt => ?_) (fun hlt => ?_)
   ·
    obtain ⟨x, hxj⟩ : ∃ x, xs[j]? = some x := ⟨_, List.getElem?_eq_getElem (by omega)⟩
    obtain ⟨y, hyj⟩ : ∃ y, ys[j]? = some y := ⟨_, List.getElem?_eq_getElem (by omega)⟩
    refine c_skip ?_
    refine x_then (hK7 _ _ ?_)
    refine c_seq fun _ hK9 => ?_
    refine c_block ?_
    refine c_seq fun _ hK10 => ?_
    refine c_drawE ([]) (fun i => false) ?_
    refine e_take 0 rfl (by kernel_rfl) (by kernel_rfl) (by kernel_rfl) (by kernel_rfl) (fun _ _ => rfl) rfl (by exact HSub.nil) (s_move rfl) ?_
    refine e_take 1 rfl (by kernel_rfl) (by kernel_rfl) (by kernel_rfl) (by kernel_rfl) (fun _ _ => rfl) rfl (by exact HSub.nil) (s_move rfl) ?_
    refine e_take 2 rfl (by kernel_rfl) (by kernel_rfl) (by kernel_rfl) (by kernel_rfl) (fun _ _ => rfl) rfl (by exact HSub.nil) (s_idx rfl rfl hsx (by omega)) ?_
    refine e_take 3 rfl (by kernel_rfl) (by kernel_rfl) (by kernel_rfl) (by kernel_rfl) (fun _ _ => rfl) rfl (by exact HSub.nil) (s_ld rfl ((RdK.old0 hx).ld j 0 hxj rfl (by decide) (by omega))) ?_
    refine e_take 4 rfl (by kernel_rfl) (by kernel_rfl) (by kernel_rfl) (by kernel_rfl) (fun _ _ => rfl) rfl (by exact HSub.nil) (s_move rfl) ?_
    refine e_take 5 rfl (by kernel_rfl) (by kernel_rfl) (by kernel_rfl) (by kernel_rfl) (fun _ _ => rfl) rfl (by exact HSub.nil) (s_move rfl) ?_
    refine e_take 6 rfl (by kernel_rfl) (by kernel_rfl) (by kernel_rfl) (by kernel_rfl) (fun _ _ => rfl) rfl (by exact HSub.nil) (s_idx rfl rfl hsy (by omega)) ?_
    refine e_take 7 rfl (by kernel_rfl) (by kernel_rfl) (by kernel_rfl) (by kernel_rfl) (fun _ _ => rfl) rfl (by exact HSub.nil) (s_ld rfl ((RdK.old0 hy).ld j 0 hyj rfl (by decide) (by omega))) ?_
    refine e_take 8 rfl (by kernel_rfl) (by kernel_rfl) (by kernel_rfl) (by kernel_rfl) (fun _ _ => rfl) rfl (by exact HSub.nil) (step_cast (v' := .bool (!decide (x = y))) (s_neq_bool rfl rfl) (by simp)) ?_
    refine e_done (by kernel_rfl) ?_
    refine x_then (hK10 _ _ ?_)
    refine c_ifn rfl (fun hne => ?_) (fun hne => ?_)
    ·
     refine c_seq fun _ hK11 => ?_
     refine c_region ?_
     refine o_step rfl (s_assign rfl) ?_
     refine o_nil ?_
     refine x_then (hK11 _ _ ?_)
     refine c_ret ?_
     refine x_block_ret (x_then_ret (x_then_ret (x_block_ret (x_then_ret (?_)))))
     exact x_ret rfl (.tmp rfl (.nil)) ((congrArg Value.bool (decide_eq_false (by intro e; subst e; rw [hxj] at hyj; cases hyj; exact hne rfl)).symm))
    ·
     refine c_skip ?_
     refine x_block ?_
     refine x_then (hK9 _ _ ?_)
     refine c_region ?_
     refine o_step rfl (s_move rfl) ?_
     refine o_step rfl (s_add rfl rfl (by omega)) ?_
     refine o_step rfl (s_assign rfl) ?_
     refine o_nil ?_
     exact x_then (x_inv (j + 1) ⟨by omega, fun i hi => by rcases Nat.lt_or_ge i j with h | h; exact hjt i h; rw [show i = j by omega, hxj, hyj, hne]⟩ (by first | omega | (dsimp only; omega)) sbA hzB)
   ·
    refine c_exit ?_
    refine x_then_exit ?_
    refine x_then_exit ?_
    refine x_block_exit ?_
    refine x_then (hK5 _ _ ?_)
    refine c_seq fun _ hK12 => ?_
    refine c_region ?_
    refine o_step rfl (s_assign rfl) ?_
    refine o_nil ?_
    refine x_then (hK12 _ _ ?_)
    refine c_ret ?_
    refine ?_
    exact x_ret rfl (.tmp rfl (.nil)) ((congrArg Value.bool (decide_eq_true (ext_upto (by omega) fun i hi => hjt i (by omega))).symm))
end Go.Proofs.Ytihbhlgognpmmaa

/- Part of the proofs over this seat: see the text that holds the theorem. Conditions: each theorem bears its own. -/
namespace Go.Proofs.Ytihbhlgognpmmaa
open Go Go.HL Go.Proofs Go.HL.Kl Go.HL.Kl.Mc
set_option maxHeartbeats 1000000 in
theorem rounds_step (w : List UInt8) (x y : Nd) (js : F) (ih : OverC Try.prog 41 w y js) (ra : Option Addr) (rc : Nat) (re : List Nd) (ta : Option Addr) (tc i i1 : Nat) (fa : Option Addr) (fc : Nat) (fr : List Bool) (S : Nat → Prop) (hre : ∀ x ∈ re, -128 ≤ x.op ∧ x.op < 128) (hr8 : ∀ x ∈ re, ¬ x.op = 8) (hwl : w.length ≤ 1000000) (hp : Part re (.nd x (.nd y js .nil) .nil) i i1) (h6 : x.op = 6) (hS : IsS fr w.length S) (hSb : ∀ p, S p → p ≤ w.length) : HL.Fn Try.prog 52 [.slice ra re.length rc, .int .i64 i, .slice ta w.length tc, .slice fa fr.length fc] (fun W => Rd En W (.slice ra re.length rc) re ∧ Rd Eb W (.slice ta w.length tc) w ∧ Rd Ebo W (.slice fa fr.length fc) fr) [] (OutP w.length (img (rounds x (der1 w y js)) S) (.slice fa fr.length fc) fr) := by
  refine fn_of Try.func52 rfl rfl rfl fun w0 hw => ?_
  obtain ⟨hx, hpk, _⟩ := hp.head
  have hilt := (List.getElem?_eq_some_iff.1 hx).1
  have hsl := hw.1.sl
  have hbl := hsl.le
  have hrf := rep_flds hp.wf.1 h6
  have hD : Inn w.length (der1 w y js) := der1_inn
  have hpb : ∀ k p, img (pow (der1 w y js) k) S p → p ≤ w.length := fun k p ⟨u, h1, h2⟩ => pow_inn hD k _ _ (hSb u h1) h2
  refine c_seq fun _ hK1 => ?_
  refine c_region ?_
  refine o_step rfl (s_assign rfl) ?_
  refine o_nil ?_
  refine x_then (hK1 _ _ ?_)
  refine c_seq fun _ hK2 => ?_
  refine c_region ?_
  refine o_step rfl (s_move rfl) ?_
  refine o_step rfl (s_assign rfl) ?_
  refine o_nil ?_
  refine x_then (hK2 _ _ ?_)
  refine c_seq fun _ hK3 => ?_
  refine c_seq fun _ hK4 => ?_
  refine c_region ?_
  refine o_step rfl (s_assign rfl) ?_
  refine o_nil ?_
  refine x_then (hK4 _ _ ?_)
  refine c_block ?_
  refine c_loop3 (fun (j : Nat) (q : Sl Bool) (Sd : Hp) => (j : Int) ≤ x.mn ∧ IsS q.xs w.length (img (pow (der1 w y js) j) S) ∧ RdC (.slice fa fr.length fc) fr (.slice q.a q.xs.length q.c) q.xs Sd) (fun (j : Nat) (q : Sl Bool) (Sd : Hp) => [(10, .int .i64 j), (9, .slice q.a q.xs.length q.c)]) [(0, _), (1, _), (2, _), (8, _)] (fun (j : Nat) (q : Sl Bool) (Sd : Hp) => Sd) (fun (j : Nat) (q : Sl Bool) (Sd : Hp) => x.mn.toNat - j) 0 ⟨fa, fc, fr⟩ [] ⟨by omega, hS.iff fun q _ => img_zero.symm, .self⟩ sbA sbA hzB ?_
  rintro j q Sd ⟨hj, hi, hq⟩
  refine c_seq fun _ hK5 => ?_
  refine c_seq fun _ hK6 => ?_
  refine c_region ?_
  refine o_step rfl (s_move rfl) ?_
  refine o_step rfl (s_move rfl) ?_
  refine o_step rfl (s_move rfl) ?_
  refine o_step rfl (s_idx rfl rfl hsl (by omega)) ?_
  refine o_step rfl (s_field rfl rfl (by decide)) ?_
  refine o_step rfl (s_ld rfl ((RdK.old0 hw.1).ld i 6 hx rfl (by decide) (by omega))) ?_
  by_cases hjm : (j : Int) < x.mn
  ·
   refine o_step rfl (step_cast (v' := .bool true) (s_lss rfl rfl) (by rw [decide_eq_true (by omega)])) ?_
   refine o_nil ?_
   refine x_then (hK6 _ _ ?_)
   refine c_true rfl ?_
   refine c_skip ?_
   refine x_then (hK5 _ _ ?_)
   refine c_seq fun _ hK7 => ?_
   refine c_block ?_
   refine c_region ?_
   refine o_step rfl (s_move rfl) ?_
   refine o_step rfl (s_move rfl) ?_
   refine o_step rfl (s_add rfl rfl (by omega)) ?_
   refine o_step rfl (s_move rfl) ?_
   refine o_step rfl (s_move rfl) ?_
   refine o_call (ih ra rc re ta tc (i + 1) _ q.a q.c q.xs _ hre hr8 hwl hpk hi (hpb j)) rfl rfl rfl (by exact .nil) (fun w st => ⟨(RdK.old0 hw.1).out w st, (RdK.old0 hw.2.1).out w st, (hq.rdk hw.2.2 hiA).out w st⟩) (fun v30 S30 ⟨a30, c30, l30, hv30, hi30, hr30⟩ => ?_)
   subst hv30
   refine o_step rfl (s_assign rfl) ?_
   refine o_nil ?_
   refine x_block ?_
   refine x_then (hK7 _ _ ?_)
   refine c_region ?_
   refine o_step rfl (s_move rfl) ?_
   refine o_step rfl (s_add rfl rfl (by omega)) ?_
   refine o_step rfl (s_assign rfl) ?_
   refine o_nil ?_
   exact x_then (x_inv (j + 1, ⟨a30, c30, l30⟩, S30 ++ Sd) ⟨by omega, hi30.iff fun q _ => img_succ, hq.trans hr30⟩ (by first | omega | (dsimp only; omega)) sbA hzB)
  ·
   obtain rfl : j = x.mn.toNat := by omega
   refine o_step rfl (step_cast (v' := .bool false) (s_lss rfl rfl) (by rw [decide_eq_false (by omega)])) ?_
   refine o_nil ?_
   refine x_then (hK6 _ _ ?_)
   refine c_false rfl ?_
   refine c_exit ?_
   refine x_then_exit ?_
   refine x_then_exit ?_
   refine x_block_exit ?_
   refine x_then (hK3 _ _ ?_)
   refine c_seq fun _ hK8 => ?_
   refine c_region ?_
   refine o_step rfl (s_move rfl) ?_
   refine o_step rfl (s_assign rfl) ?_
   refine o_nil ?_
   refine x_then (hK8 _ _ ?_)
   refine c_seq fun _ hK9 => ?_
   refine c_seq fun _ hK10 => ?_
   refine c_region ?_
   refine o_step rfl (s_move rfl) ?_
   refine o_step rfl (s_move rfl) ?_
   refine o_step rfl (s_idx rfl rfl hsl (by omega)) ?_
   refine o_step rfl (s_field rfl rfl (by decide)) ?_
   refine o_step rfl (s_ld rfl ((RdK.old0 hw.1).ld i 6 hx rfl (by decide) (by omega))) ?_
   refine o_step rfl (s_assign rfl) ?_
   refine o_nil ?_
   refine x_then (hK10 _ _ ?_)
   refine c_block ?_
   -- not carried: 8
   refine c_loop4 (fun (k : Nat) (qn : Sl Bool) (qo : Sl Bool) (Sd : Hp) => x.mn ≤ k ∧ (x.mx = -1 → k + cf qo.xs ≤ x.mn.toNat + w.length + 1) ∧ (x.mx ≠ -1 → (k : Int) ≤ x.mx) ∧ IsS qn.xs w.length (img (pow (der1 w y js) k) S) ∧ IsS qo.xs w.length (upTo (der1 w y js) S x.mn.toNat k) ∧ RdC (.slice fa fr.length fc) fr (.slice qn.a qn.xs.length qn.c) qn.xs Sd ∧ RdC (.slice fa fr.length fc) fr (.slice qo.a qo.xs.length qo.c) qo.xs Sd) (fun (k : Nat) (qn : Sl Bool) (qo : Sl Bool) (Sd : Hp) => [(12, .int .i64 k), (9, .slice qn.a qn.xs.length qn.c), (11, .slice qo.a qo.xs.length qo.c)]) [(0, _), (1, _), (2, _)] (fun (k : Nat) (qn : Sl Bool) (qo : Sl Bool) (Sd : Hp) => Sd) (fun (k : Nat) (qn : Sl Bool) (qo : Sl Bool) (Sd : Hp) => (if x.mx = -1 then cf qo.xs else (x.mx - k).toNat)) x.mn.toNat q q Sd ⟨by omega, fun _ => by have := cf_le q.xs; have := hi.len; omega, fun h => by omega, hi, hi.iff fun q _ => upTo_start.symm, hq, hq⟩ (by exact Sub.cons' rfl (by congr 1; omega) sbA) sbA hzB ?_
   rintro k qn qo Sd ⟨hk1, hk2, hk3, hin0, hio, hrn, hro⟩
   have hlo := hio.len
   refine c_seq fun _ hK11 => ?_
   refine c_seq fun _ hK12 => ?_
   refine c_region ?_
   refine o_step rfl (s_move rfl) ?_
   refine o_step rfl (s_move rfl) ?_
   refine o_step rfl (s_move rfl) ?_
   refine o_step rfl (s_idx rfl rfl hsl (by omega)) ?_
   refine o_step rfl (s_field rfl rfl (by decide)) ?_
   refine o_step rfl (s_ld rfl ((RdK.old0 hw.1).ld i 7 hx rfl (by decide) (by omega))) ?_
   by_cases hkm : (k : Int) < x.mx
   ·
    refine o_step rfl (step_cast (v' := .bool true) (s_lss rfl rfl) (by rw [decide_eq_true (by omega)])) ?_
    refine o_step rfl (s_move rfl) ?_
    refine o_no rfl rfl rfl rfl ?_
    refine o_no rfl rfl rfl rfl ?_
    refine o_no rfl rfl rfl rfl ?_
    refine o_no rfl rfl rfl rfl ?_
    refine o_no rfl rfl rfl rfl ?_
    refine o_no rfl rfl rfl rfl ?_
    refine o_step rfl (s_pick_t rfl rfl) ?_
    refine o_nil ?_
    refine x_then (hK12 _ _ ?_)
    refine c_true rfl ?_
    refine c_skip ?_
    refine x_then (hK11 _ _ ?_)
    refine c_seq fun _ hK13 => ?_
    refine c_block ?_
    refine c_seq fun _ hK14 => ?_
    refine c_region ?_
    refine o_step rfl (s_move rfl) ?_
    refine o_step rfl (s_move rfl) ?_
    refine o_step rfl (s_add rfl rfl (by omega)) ?_
    refine o_step rfl (s_move rfl) ?_
    refine o_step rfl (s_move rfl) ?_
    refine o_call (ih ra rc re ta tc (i + 1) _ qn.a qn.c qn.xs _ hre hr8 hwl hpk hin0 (hpb k)) rfl rfl rfl (by exact .nil) (fun w st => ⟨(RdK.old0 hw.1).out w st, (RdK.old0 hw.2.1).out w st, (hrn.rdk hw.2.2 hiA).out w st⟩) (fun v59 S59 ⟨a59, c59, l59, hv59, hi59, hr59⟩ => ?_)
    subst hv59
    have hr59 : RdC (.slice qn.a qn.xs.length qn.c) qn.xs (.slice a59 l59.length c59) l59 S59 := hr59
    have hln := hi59.len
    refine o_step rfl (s_assign rfl) ?_
    refine o_nil ?_
    refine x_then (hK14 _ _ ?_)
    refine c_seq fun _ hK15 => ?_
    refine c_region ?_
    refine o_step rfl (s_move rfl) ?_
    refine o_step rfl (s_move rfl) ?_
    refine o_call (both_fn qo.a a59 qo.c c59 qo.xs l59 (by omega) (by omega)) rfl rfl rfl (by exact .nil) (fun w st => ⟨(hro.rdk hw.2.2 hiA).out w st, ((hrn.trans hr59).rdk hw.2.2 hiB).out w st⟩) (fun v63 S63 ⟨a63, c63, hv63, hO63⟩ => ?_)
    subst hv63
    refine o_step rfl (s_move rfl) ?_
    refine o_step rfl (s_extract rfl rfl) ?_
    refine o_step rfl (s_extract rfl rfl) ?_
    refine o_step rfl (s_assign rfl) ?_
    refine o_step rfl (s_assign rfl) ?_
    refine o_nil ?_
    refine x_then (hK15 _ _ ?_)
    refine c_seq fun _ hK16 => ?_
    refine c_seq fun _ hK17 => ?_
    refine c_region ?_
    refine o_step rfl (s_move rfl) ?_
    by_cases hmo : moreB qo.xs l59 = false
    ·
     refine o_step rfl (step_cast (v' := .bool true) (s_not rfl) (by rw [hmo]; rfl)) ?_
     refine o_step rfl (s_move rfl) ?_
     refine o_yes rfl rfl ?_
     refine o_step rfl (s_move rfl) ?_
     refine o_yes rfl rfl ?_
     refine o_step rfl (s_move rfl) ?_
     refine o_yes rfl rfl ?_
     refine o_step rfl (s_idx rfl rfl hsl (by omega)) ?_
     refine o_yes rfl rfl ?_
     refine o_step rfl (s_field rfl rfl (by decide)) ?_
     refine o_yes rfl rfl ?_
     refine o_step rfl (s_ld rfl ((RdK.old0 hw.1).ld i 7 hx rfl (by decide) (by omega))) ?_
     refine o_yes rfl rfl ?_
     by_cases hm2 : x.mx = -1
     ·
      refine o_step rfl (step_cast (v' := .bool true) (s_eql rfl rfl) (by rw [decide_eq_true (by omega)])) ?_
      refine o_step rfl (s_pick_t rfl rfl) ?_
      refine o_nil ?_
      refine x_then (hK17 _ _ ?_)
      refine c_true rfl ?_
      refine c_seq fun _ hK18 => ?_
      refine c_region ?_
      refine o_step rfl (s_move rfl) ?_
      refine o_step rfl (s_assign rfl) ?_
      refine o_nil ?_
      refine x_then (hK18 _ _ ?_)
      refine c_ret ?_
      refine x_then_ret (x_block_ret (x_then_ret (x_then_ret (x_block_ret (x_then_ret (?_))))))
      exfalso; omega
     ·
      refine o_step rfl (step_cast (v' := .bool false) (s_eql rfl rfl) (by rw [decide_eq_false (by omega)])) ?_
      refine o_step rfl (s_pick_t rfl rfl) ?_
      refine o_nil ?_
      refine x_then (hK17 _ _ ?_)
      refine c_false rfl ?_
      refine c_skip ?_
      refine x_then (hK16 _ _ ?_)
      refine c_region ?_
      refine o_step rfl (s_move rfl) ?_
      refine o_step rfl (s_assign rfl) ?_
      refine o_nil ?_
      refine x_block ?_
      refine x_then (hK13 _ _ ?_)
      refine c_region ?_
      refine o_step rfl (s_move rfl) ?_
      refine o_step rfl (s_add rfl rfl (by omega)) ?_
      refine o_step rfl (s_assign rfl) ?_
      refine o_nil ?_
      have hin : IsS l59 w.length (img (pow (der1 w y js) (k + 1)) S) := hi59.iff fun q _ => img_succ
      have hio2 : IsS (orL qo.xs l59) w.length (upTo (der1 w y js) S x.mn.toNat (k + 1)) := (hio.or hin).iff fun q _ => (upTo_succ (by omega)).symm
      have hcf := cf_le (orL qo.xs l59)
      have hol := orL_len qo.xs l59
      exact x_then (x_inv (k + 1, ⟨a59, c59, l59⟩, ⟨a63, c63, orL qo.xs l59⟩, S63 ++ (S59 ++ Sd)) ⟨by omega, fun h => by omega, fun h => by omega, hin, hio2, (hrn.trans hr59).mono hiB, .of (hO63.rds.mono hiA)⟩ (by dsimp only; rw [if_neg (by omega), if_neg (by omega)]; omega) sbA hzB)
    ·
     have hmo2 : moreB qo.xs l59 = true := by simpa using hmo
     refine o_step rfl (step_cast (v' := .bool false) (s_not rfl) (by rw [hmo2]; rfl)) ?_
     refine o_step rfl (s_move rfl) ?_
     refine o_no rfl rfl rfl rfl ?_
     refine o_no rfl rfl rfl rfl ?_
     refine o_no rfl rfl rfl rfl ?_
     refine o_no rfl rfl rfl rfl ?_
     refine o_no rfl rfl rfl rfl ?_
     refine o_no rfl rfl rfl rfl ?_
     refine o_step rfl (s_pick_f rfl rfl) ?_
     refine o_nil ?_
     refine x_then (hK17 _ _ ?_)
     refine c_false rfl ?_
     refine c_skip ?_
     refine x_then (hK16 _ _ ?_)
     refine c_region ?_
     refine o_step rfl (s_move rfl) ?_
     refine o_step rfl (s_assign rfl) ?_
     refine o_nil ?_
     refine x_block ?_
     refine x_then (hK13 _ _ ?_)
     refine c_region ?_
     refine o_step rfl (s_move rfl) ?_
     refine o_step rfl (s_add rfl rfl (by omega)) ?_
     refine o_step rfl (s_assign rfl) ?_
     refine o_nil ?_
     have hin : IsS l59 w.length (img (pow (der1 w y js) (k + 1)) S) := hi59.iff fun q _ => img_succ
     have hio2 : IsS (orL qo.xs l59) w.length (upTo (der1 w y js) S x.mn.toNat (k + 1)) := (hio.or hin).iff fun q _ => (upTo_succ (by omega)).symm
     have hcf := cf_le (orL qo.xs l59)
     have hol := orL_len qo.xs l59
     exact x_then (x_inv (k + 1, ⟨a59, c59, l59⟩, ⟨a63, c63, orL qo.xs l59⟩, S63 ++ (S59 ++ Sd)) ⟨by omega, fun h => by omega, fun h => by omega, hin, hio2, (hrn.trans hr59).mono hiB, .of (hO63.rds.mono hiA)⟩ (by dsimp only; rw [if_neg (by omega), if_neg (by omega)]; omega) sbA hzB)
   ·
    refine o_step rfl (step_cast (v' := .bool false) (s_lss rfl rfl) (by rw [decide_eq_false (by omega)])) ?_
    refine o_step rfl (s_move rfl) ?_
    refine o_yes rfl rfl ?_
    refine o_step rfl (s_move rfl) ?_
    refine o_yes rfl rfl ?_
    refine o_step rfl (s_move rfl) ?_
    refine o_yes rfl rfl ?_
    refine o_step rfl (s_idx rfl rfl hsl (by omega)) ?_
    refine o_yes rfl rfl ?_
    refine o_step rfl (s_field rfl rfl (by decide)) ?_
    refine o_yes rfl rfl ?_
    refine o_step rfl (s_ld rfl ((RdK.old0 hw.1).ld i 7 hx rfl (by decide) (by omega))) ?_
    refine o_yes rfl rfl ?_
    by_cases hm1 : x.mx = -1
    ·
     have hk2b := hk2 hm1
     refine o_step rfl (step_cast (v' := .bool true) (s_eql rfl rfl) (by rw [decide_eq_true (by omega)])) ?_
     refine o_step rfl (s_pick_f rfl rfl) ?_
     refine o_nil ?_
     refine x_then (hK12 _ _ ?_)
     refine c_true rfl ?_
     refine c_skip ?_
     refine x_then (hK11 _ _ ?_)
     refine c_seq fun _ hK19 => ?_
     refine c_block ?_
     refine c_seq fun _ hK20 => ?_
     refine c_region ?_
     refine o_step rfl (s_move rfl) ?_
     refine o_step rfl (s_move rfl) ?_
     refine o_step rfl (s_add rfl rfl (by omega)) ?_
     refine o_step rfl (s_move rfl) ?_
     refine o_step rfl (s_move rfl) ?_
     refine o_call (ih ra rc re ta tc (i + 1) _ qn.a qn.c qn.xs _ hre hr8 hwl hpk hin0 (hpb k)) rfl rfl rfl (by exact .nil) (fun w st => ⟨(RdK.old0 hw.1).out w st, (RdK.old0 hw.2.1).out w st, (hrn.rdk hw.2.2 hiA).out w st⟩) (fun v59 S59 ⟨a59, c59, l59, hv59, hi59, hr59⟩ => ?_)
     subst hv59
     have hr59 : RdC (.slice qn.a qn.xs.length qn.c) qn.xs (.slice a59 l59.length c59) l59 S59 := hr59
     have hln := hi59.len
     refine o_step rfl (s_assign rfl) ?_
     refine o_nil ?_
     refine x_then (hK20 _ _ ?_)
     refine c_seq fun _ hK21 => ?_
     refine c_region ?_
     refine o_step rfl (s_move rfl) ?_
     refine o_step rfl (s_move rfl) ?_
     refine o_call (both_fn qo.a a59 qo.c c59 qo.xs l59 (by omega) (by omega)) rfl rfl rfl (by exact .nil) (fun w st => ⟨(hro.rdk hw.2.2 hiA).out w st, ((hrn.trans hr59).rdk hw.2.2 hiB).out w st⟩) (fun v63 S63 ⟨a63, c63, hv63, hO63⟩ => ?_)
     subst hv63
     refine o_step rfl (s_move rfl) ?_
     refine o_step rfl (s_extract rfl rfl) ?_
     refine o_step rfl (s_extract rfl rfl) ?_
     refine o_step rfl (s_assign rfl) ?_
     refine o_step rfl (s_assign rfl) ?_
     refine o_nil ?_
     refine x_then (hK21 _ _ ?_)
     refine c_seq fun _ hK22 => ?_
     refine c_seq fun _ hK23 => ?_
     refine c_region ?_
     refine o_step rfl (s_move rfl) ?_
     by_cases hmo : moreB qo.xs l59 = false
     ·
      refine o_step rfl (step_cast (v' := .bool true) (s_not rfl) (by rw [hmo]; rfl)) ?_
      refine o_step rfl (s_move rfl) ?_
      refine o_yes rfl rfl ?_
      refine o_step rfl (s_move rfl) ?_
      refine o_yes rfl rfl ?_
      refine o_step rfl (s_move rfl) ?_
      refine o_yes rfl rfl ?_
      refine o_step rfl (s_idx rfl rfl hsl (by omega)) ?_
      refine o_yes rfl rfl ?_
      refine o_step rfl (s_field rfl rfl (by decide)) ?_
      refine o_yes rfl rfl ?_
      refine o_step rfl (s_ld rfl ((RdK.old0 hw.1).ld i 7 hx rfl (by decide) (by omega))) ?_
      refine o_yes rfl rfl ?_
      by_cases hm2 : x.mx = -1
      ·
       refine o_step rfl (step_cast (v' := .bool true) (s_eql rfl rfl) (by rw [decide_eq_true (by omega)])) ?_
       refine o_step rfl (s_pick_t rfl rfl) ?_
       refine o_nil ?_
       refine x_then (hK23 _ _ ?_)
       refine c_true rfl ?_
       refine c_seq fun _ hK24 => ?_
       refine c_region ?_
       refine o_step rfl (s_move rfl) ?_
       refine o_step rfl (s_assign rfl) ?_
       refine o_nil ?_
       refine x_then (hK24 _ _ ?_)
       refine c_ret ?_
       refine x_then_ret (x_block_ret (x_then_ret (x_then_ret (x_block_ret (x_then_ret (?_))))))
       refine x_sub (Sub.refl _) (H' := Sd) hzB ?_
       exact x_ret rfl (.tmp rfl (.nil)) (⟨_, _, _, rfl, hio.iff fun q _ => rounds_fixed (by omega) hm1 (by omega) hSb hD (fun q hq h => hio.no_more (hi59.iff fun q _ => img_succ) hmo q hq h |> fun h => h) q, hro⟩)
      ·
       refine o_step rfl (step_cast (v' := .bool false) (s_eql rfl rfl) (by rw [decide_eq_false (by omega)])) ?_
       refine o_step rfl (s_pick_t rfl rfl) ?_
       refine o_nil ?_
       refine x_then (hK23 _ _ ?_)
       refine c_false rfl ?_
       refine c_skip ?_
       refine x_then (hK22 _ _ ?_)
       refine c_region ?_
       refine o_step rfl (s_move rfl) ?_
       refine o_step rfl (s_assign rfl) ?_
       refine o_nil ?_
       refine x_block ?_
       refine x_then (hK19 _ _ ?_)
       refine c_region ?_
       refine o_step rfl (s_move rfl) ?_
       refine o_step rfl (s_add rfl rfl (by omega)) ?_
       refine o_step rfl (s_assign rfl) ?_
       refine o_nil ?_
       have hin : IsS l59 w.length (img (pow (der1 w y js) (k + 1)) S) := hi59.iff fun q _ => img_succ
       have hio2 : IsS (orL qo.xs l59) w.length (upTo (der1 w y js) S x.mn.toNat (k + 1)) := (hio.or hin).iff fun q _ => (upTo_succ (by omega)).symm
       have hcf := cf_le (orL qo.xs l59)
       have hol := orL_len qo.xs l59
       exact x_then (x_inv (k + 1, ⟨a59, c59, l59⟩, ⟨a63, c63, orL qo.xs l59⟩, S63 ++ (S59 ++ Sd)) ⟨by omega, fun h => by omega, fun h => by omega, hin, hio2, (hrn.trans hr59).mono hiB, .of (hO63.rds.mono hiA)⟩ (by omega) sbA hzB)
     ·
      have hmo2 : moreB qo.xs l59 = true := by simpa using hmo
      refine o_step rfl (step_cast (v' := .bool false) (s_not rfl) (by rw [hmo2]; rfl)) ?_
      refine o_step rfl (s_move rfl) ?_
      refine o_no rfl rfl rfl rfl ?_
      refine o_no rfl rfl rfl rfl ?_
      refine o_no rfl rfl rfl rfl ?_
      refine o_no rfl rfl rfl rfl ?_
      refine o_no rfl rfl rfl rfl ?_
      refine o_no rfl rfl rfl rfl ?_
      refine o_step rfl (s_pick_f rfl rfl) ?_
      refine o_nil ?_
      refine x_then (hK23 _ _ ?_)
      refine c_false rfl ?_
      refine c_skip ?_
      refine x_then (hK22 _ _ ?_)
      refine c_region ?_
      refine o_step rfl (s_move rfl) ?_
      refine o_step rfl (s_assign rfl) ?_
      refine o_nil ?_
      refine x_block ?_
      refine x_then (hK19 _ _ ?_)
      refine c_region ?_
      refine o_step rfl (s_move rfl) ?_
      refine o_step rfl (s_add rfl rfl (by omega)) ?_
      refine o_step rfl (s_assign rfl) ?_
      refine o_nil ?_
      have hin : IsS l59 w.length (img (pow (der1 w y js) (k + 1)) S) := hi59.iff fun q _ => img_succ
      have hio2 : IsS (orL qo.xs l59) w.length (upTo (der1 w y js) S x.mn.toNat (k + 1)) := (hio.or hin).iff fun q _ => (upTo_succ (by omega)).symm
      have hcf := cf_le (orL qo.xs l59)
      have hol := orL_len qo.xs l59
      exact x_then (x_inv (k + 1, ⟨a59, c59, l59⟩, ⟨a63, c63, orL qo.xs l59⟩, S63 ++ (S59 ++ Sd)) ⟨by omega, fun h => by have := cf_more hmo2; have := hk2 hm1; dsimp only; omega, fun h => absurd hm1 h, hin, hio2, (hrn.trans hr59).mono hiB, .of (hO63.rds.mono hiA)⟩ (by dsimp only; rw [if_pos hm1, if_pos hm1]; exact cf_more hmo2) sbA hzB)
    ·
     have hmk := hk3 hm1
     refine o_step rfl (step_cast (v' := .bool false) (s_eql rfl rfl) (by rw [decide_eq_false (by omega)])) ?_
     refine o_step rfl (s_pick_f rfl rfl) ?_
     refine o_nil ?_
     refine x_then (hK12 _ _ ?_)
     refine c_false rfl ?_
     refine c_exit ?_
     refine x_then_exit ?_
     refine x_then_exit ?_
     refine x_block_exit ?_
     refine x_then (hK9 _ _ ?_)
     refine c_seq fun _ hK25 => ?_
     refine c_region ?_
     refine o_step rfl (s_move rfl) ?_
     refine o_step rfl (s_assign rfl) ?_
     refine o_nil ?_
     refine x_then (hK25 _ _ ?_)
     refine c_ret ?_
     refine ?_
     refine x_sub (Sub.refl _) (H' := Sd) hzB ?_
     exact x_ret rfl (.tmp rfl (.nil)) (⟨_, _, _, rfl, hio.iff fun q _ => rounds_last (by omega) (by omega) q, hro⟩)
end Go.Proofs.Ytihbhlgognpmmaa
