/- Part of the proofs over this seat: see the text that holds the theorem. Conditions: each theorem bears its own. -/
import Derived.Test.YtmompllplidphaaDoorSW16
namespace Go.Proofs.YtmompllplidphaaDoor
open Go Go.HL Go.Proofs Go.HL.Kl Go.HL.Kl.Mc Go.HL.Sts
/-- lists with room behind them, owned -/
inductive OwnW : List (Sl Int) → Hp → Prop
  | nil : OwnW [] []
  | cons {s : Sl Int} {sls : List (Sl Int)} {S R : Hp} (h : OwnS Ei 1 3 (.slice s.a (wdl spZ s.xs).length s.c) (wdl spZ s.xs) S) (hs : OwnW sls R) : OwnW (s :: sls) (S ++ R)
theorem OwnW.snoc {sls : List (Sl Int)} {S S' : Hp} {s : Sl Int} (h : OwnW sls S) (h' : OwnS Ei 1 3 (.slice s.a (wdl spZ s.xs).length s.c) (wdl spZ s.xs) S') : OwnW (sls ++ [s]) (S ++ S') := by
  induction h with
  | nil => simpa using OwnW.cons h' .nil
  | cons h hs ih => simpa using OwnW.cons h ih
theorem OwnW.rdk {sls : List (Sl Int)} {S H : Hp} {κ : Cx} (h : OwnW sls S) : HIn S H → ∀ s ∈ sls, RdK Ei κ H (.slice s.a (wdl spZ s.xs).length s.c) (wdl spZ s.xs) := by
  induction h with
  | nil => intro _ s hs; cases hs
  | cons h hs ih =>
    intro hin s' hs'
    rcases List.mem_cons.1 hs' with rfl | hs'
    · exact h.rdk fun p hp => hin p (List.mem_append_left _ hp)
    · exact ih (fun p hp => hin p (List.mem_append_right _ hp)) s' hs'
theorem OwnW.rdx {sls : List (Sl Int)} {S H : Hp} {n : Nat} {ds : List Deferred} {w0 : World} {M : List Nat} {w : World} (h : OwnW sls S) (hin : HIn S H) (st : St w0 w M H) {s : Sl Int} (hs : s ∈ sls) : Rd Ei w s.v s.xs := by
  have h1 := (h.rdk (κ := ⟨n, ds, w0, M⟩) hin s hs).out w st
  have h2 := h1.pref s.xs.length
  rw [wdl_take] at h2
  exact h2
/-- the lists behind -/
def Sps (n : Nat) (sps : List (Sl Int)) : Prop := ∀ j s, sps[j]? = some s → s.xs = [spZ (n + j)]
theorem Sps.nil (n : Nat) : Sps n [] := fun j s h => by simp at h
theorem Sps.snoc {n : Nat} {sps : List (Sl Int)} {s : Sl Int} (h : Sps n sps) (hs : s.xs = [spZ (n + sps.length)]) : Sps n (sps ++ [s]) := by
  intro j s' hj
  rcases Nat.lt_or_ge j sps.length with hl | hl
  · rw [List.getElem?_append_left hl] at hj; exact h j s' hj
  · rw [List.getElem?_append_right hl] at hj
    have hz : j - sps.length = 0 := by
      have := (List.getElem?_eq_some_iff.1 hj).1
      simp at this; omega
    rw [hz] at hj
    simp at hj
    subst hj
    rw [show j = sps.length by omega]; exact hs
theorem map_take_succ {α β : Type} {f : α → β} {l : List α} {j : Nat} {x : α} (h : l[j]? = some x) : (l.take (j + 1)).map f = (l.take j).map f ++ [f x] := by rw [take_succ_get h]; simp
/-- a machine with room behind its lists, owned -/
def WdO (d : Df) (v : Value) (S : Hp) : Prop := ∃ (aC aR aE : Option Addr) (hs sps : List (Sl Int)) (SC SB SH SS SE : Hp), v = .agg [.slice aC d.atoms.length (d.atoms.length + 64), .slice aR hs.length (hs.length + 64), .slice aE d.ends.length (d.ends.length + 64)].toArray ∧ S = SC ++ (SB ++ (SH ++ (SS ++ SE))) ∧
  OwnS Ec 4 54 (.slice aC (wdl spC d.atoms).length (d.atoms.length + 64)) (wdl spC d.atoms) SC ∧ OwnS Esl 1 46 (.slice aR (hs ++ sps).length (hs.length + 64)) (hs ++ sps) SB ∧ OwnW hs SH ∧ OwnL Ei 1 3 sps (sps.map Sl.xs) SS ∧ OwnS Ebo 1 4 (.slice aE (wdl spBo d.ends).length (d.ends.length + 64)) (wdl spBo d.ends) SE ∧ d.next = hs.map Sl.xs ∧ sps.length = 64 ∧ Sps hs.length sps
/-- nothing in a machine is too large -/
structure Sml (d : Df) (rows : List (Sl Int)) : Prop where
  at_ : d.atoms.length ≤ 16777216
  nx : rows.length ≤ 16777216
  en : d.ends.length ≤ 16777216
  rw_ : ∀ s ∈ rows, s.xs.length ≤ 16777216
theorem eqIntss_fn (a a2 : Option Addr) (c c2 : Nat) (xs ys : List (Sl Int)) : HL.Fn Tryd.prog 43 [.slice a xs.length c, .slice a2 ys.length c2] (fun w => Rd Esl w (.slice a xs.length c) xs ∧ Rd Esl w (.slice a2 ys.length c2) ys ∧ (∀ s ∈ xs, Rd Ei w s.v s.xs) ∧ ∀ s ∈ ys, Rd Ei w s.v s.xs) [] (fun v _ => v = .bool (decide ((xs.map Sl.xs) = (ys.map Sl.xs)))) := by
  refine fn_of Tryd.func43 rfl rfl rfl fun w0 hw => ?_
  obtain ⟨hx, hy, hxr, hyr⟩ := hw
  have hsx := hx.sl
  have hsy := hy.sl
  have hbx := hsx.le
  have hby := hsy.le
  refine c_seq fun _ hK1 => ?_
  refine c_region ?_
  refine o_step rfl (s_assign rfl) ?_
  refine o_nil ?_
  refine x_then (hK1 _ _ ?_)
  refine c_seq fun _ hK2 => ?_
  refine c_seq fun _ hK3 => ?_
  refine c_region ?_
  refine o_step rfl (s_move rfl) ?_
  refine o_step rfl (s_len rfl) ?_
  refine o_step rfl (s_move rfl) ?_
  refine o_step rfl (s_len rfl) ?_
  by_cases hl : xs.length ≠ ys.length
  ·
   refine o_step rfl (step_cast (v' := .bool true) (s_neq rfl rfl) (congrArg Value.bool (decide_eq_true (by omega)))) ?_
   refine o_nil ?_
   refine x_then (hK3 _ _ ?_)
   refine c_true rfl ?_
   refine c_seq fun _ hK4 => ?_
   refine c_region ?_
   refine o_step rfl (s_assign rfl) ?_
   refine o_nil ?_
   refine x_then (hK4 _ _ ?_)
   refine c_ret ?_
   refine x_then_ret (?_)
   exact x_ret rfl (.tmp rfl (.nil)) ((congrArg Value.bool (decide_eq_false (by intro e; have := congrArg List.length e; simp at this; omega)).symm))
  ·
   refine o_step rfl (step_cast (v' := .bool false) (s_neq rfl rfl) (congrArg Value.bool (decide_eq_false (by omega)))) ?_
   refine o_nil ?_
   refine x_then (hK3 _ _ ?_)
   refine c_false rfl ?_
   refine c_skip ?_
   refine x_then (hK2 _ _ ?_)
   refine c_seq fun _ hK5 => ?_
   refine c_seq fun _ hK6 => ?_
   refine c_region ?_
   refine o_step rfl (s_assign rfl) ?_
   refine o_nil ?_
   refine x_then (hK6 _ _ ?_)
   refine c_block ?_
   -- not carried: 4
   refine c_loopB (fun (j : Nat) => j ≤ xs.length ∧ ∀ i, i < j → (xs.map Sl.xs)[i]? = (ys.map Sl.xs)[i]?) (fun (j : Nat) => [(5, .int .i64 j)]) [(0, _), (1, _)] (fun (j : Nat) => []) (fun (j : Nat) => xs.length - j) 0 ⟨by omega, fun i hi => by omega⟩ sbA sbA hzB ?_
   rintro j ⟨hj, hjt⟩
   refine c_seq fun _ hK7 => ?_
   refine c_seq fun _ hK8 => ?_
   refine c_region ?_
   refine o_step rfl (s_move rfl) ?_
   refine o_step rfl (s_move rfl) ?_
   refine o_step rfl (s_len rfl) ?_
   by_cases hlt : j < xs.length
   ·
    obtain ⟨x, hxj⟩ : ∃ x, xs[j]? = some x := ⟨_, List.getElem?_eq_getElem (by omega)⟩
    obtain ⟨y, hyj⟩ : ∃ y, ys[j]? = some y := ⟨_, List.getElem?_eq_getElem (by omega)⟩
    refine o_step rfl (step_cast (v' := .bool true) (s_lss rfl rfl) (congrArg Value.bool (decide_eq_true (by omega)))) ?_
    refine o_nil ?_
    refine x_then (hK8 _ _ ?_)
    refine c_true rfl ?_
    refine c_skip ?_
    refine x_then (hK7 _ _ ?_)
    refine c_seq fun _ hK9 => ?_
    refine c_block ?_
    refine c_seq fun _ hK10 => ?_
    refine c_drawE ([]) (fun i => false) ?_
    refine e_pure 0 rfl (by kernel_rfl) (by kernel_rfl) (by kernel_rfl) rfl (s_move rfl) ?_
    refine e_pure 1 rfl (by kernel_rfl) (by kernel_rfl) (by kernel_rfl) rfl (s_move rfl) ?_
    refine e_pure 2 rfl (by kernel_rfl) (by kernel_rfl) (by kernel_rfl) rfl (s_idx rfl rfl hsx (by omega)) ?_
    refine e_take 3 rfl (by kernel_rfl) (by kernel_rfl) (by kernel_rfl) (by kernel_rfl) (fun _ _ => rfl) rfl (by exact HSub.nil) (s_ld rfl ((RdK.old0 hx).ld j 0 hxj rfl (by decide) (by omega))) ?_
    refine e_pure 4 rfl (by kernel_rfl) (by kernel_rfl) (by kernel_rfl) rfl (s_move rfl) ?_
    refine e_pure 5 rfl (by kernel_rfl) (by kernel_rfl) (by kernel_rfl) rfl (s_move rfl) ?_
    refine e_pure 6 rfl (by kernel_rfl) (by kernel_rfl) (by kernel_rfl) rfl (s_idx rfl rfl hsy (by omega)) ?_
    refine e_take 7 rfl (by kernel_rfl) (by kernel_rfl) (by kernel_rfl) (by kernel_rfl) (fun _ _ => rfl) rfl (by exact HSub.nil) (s_ld rfl ((RdK.old0 hy).ld j 0 hyj rfl (by decide) (by omega))) ?_
    refine e_one 8 rfl (by kernel_rfl) ?_
    refine o_callP (eqZ_fn x.a y.a x.c y.c x.xs y.xs) rfl rfl rfl (fun w st => ⟨(RdK.old0 (hxr x (List.mem_of_getElem? hxj))).out w st, (RdK.old0 (hyr y (List.mem_of_getElem? hyj))).out w st⟩) (fun v25 hv25 => ?_)
    cases hq25 : decide (x.xs = y.xs)
    ·
     rw [hq25] at hv25
     subst hv25
     have hne := of_decide_eq_false hq25
     refine o_nil ?_
     refine x_oneS (by exact HSub.nil) ?_
     refine e_pure 9 rfl (by kernel_rfl) (by kernel_rfl) (by kernel_rfl) rfl (s_not rfl) ?_
     refine e_done (by kernel_rfl) ?_
     refine x_then (hK10 _ _ ?_)
     refine c_true rfl ?_
     refine c_seq fun _ hK11 => ?_
     refine c_region ?_
     refine o_step rfl (s_assign rfl) ?_
     refine o_nil ?_
     refine x_then (hK11 _ _ ?_)
     refine c_ret ?_
     refine x_block_ret (x_then_ret (x_then_ret (x_block_ret (x_then_ret (?_)))))
     exact x_ret rfl (.tmp rfl (.nil)) ((congrArg Value.bool (decide_eq_false (by intro e; have := congrArg (fun l => l[j]?) e; simp only [List.getElem?_map, hxj, hyj, Option.map_some, Option.some.injEq] at this; exact hne this)).symm))
    ·
     rw [hq25] at hv25
     subst hv25
     have hne := of_decide_eq_true hq25
     refine o_nil ?_
     refine x_oneS (by exact HSub.nil) ?_
     refine e_pure 9 rfl (by kernel_rfl) (by kernel_rfl) (by kernel_rfl) rfl (s_not rfl) ?_
     refine e_done (by kernel_rfl) ?_
     refine x_then (hK10 _ _ ?_)
     refine c_false rfl ?_
     refine c_skip ?_
     refine x_block ?_
     refine x_then (hK9 _ _ ?_)
     refine c_region ?_
     refine o_step rfl (s_move rfl) ?_
     refine o_step rfl (s_add rfl rfl (by omega)) ?_
     refine o_step rfl (s_assign rfl) ?_
     refine o_nil ?_
     exact x_then (x_inv (j + 1) ⟨by omega, fun i hi => by rcases Nat.lt_or_ge i j with h | h; (· exact hjt i h); (· rw [show i = j by omega, List.getElem?_map, List.getElem?_map, hxj, hyj]; exact congrArg some hne)⟩ (by first | omega | (dsimp only; omega)) sbA hzB)
   ·
    refine o_step rfl (step_cast (v' := .bool false) (s_lss rfl rfl) (congrArg Value.bool (decide_eq_false (by omega)))) ?_
    refine o_nil ?_
    refine x_then (hK8 _ _ ?_)
    refine c_false rfl ?_
    refine c_exit ?_
    refine x_then_exit ?_
    refine x_then_exit ?_
    refine x_block_exit ?_
    refine x_then (hK5 _ _ ?_)
    refine c_seq fun _ hK12 => ?_
    refine c_region ?_
    refine o_step rfl (s_assign rfl) ?_
    refine o_nil ?_
    refine x_then (hK12 _ _ ?_)
    refine c_ret ?_
    refine ?_
    exact x_ret rfl (.tmp rfl (.nil)) ((congrArg Value.bool (decide_eq_true (ext_upto (by simp; omega) fun i hi => hjt i (by simp at hi; omega))).symm))
set_option maxHeartbeats 1000000 in
theorem wideIntss_fn (a : Option Addr) (c : Nat) (rows : List (Sl Int)) (hn : rows.length ≤ 2147483647) (hK : ∀ s ∈ rows, s.xs.length ≤ 2147483647) : HL.Fn Tryd.prog 34 [.slice a rows.length c] (fun w => Rd Esl w (.slice a rows.length c) rows ∧ ∀ s ∈ rows, Rd Ei w s.v s.xs) [] (fun v S' => ∃ a' hs sps SB SH SS, v = .slice a' rows.length (rows.length + 64) ∧ S' = SB ++ (SH ++ SS) ∧ OwnS Esl 1 46 (.slice a' (hs ++ sps).length (rows.length + 64)) (hs ++ sps) SB ∧ OwnW hs SH ∧ OwnL Ei 1 3 sps (sps.map Sl.xs) SS ∧ hs.map Sl.xs = rows.map Sl.xs ∧ sps.length = 64 ∧ Sps rows.length sps) := by
  refine fn_of Tryd.func34 rfl rfl rfl fun w0 hw => ?_
  have hsx := hw.1.sl
  have hbx := hsx.le
  refine c_seq fun _ hK1 => ?_
  refine c_region ?_
  refine o_step rfl (s_assign rfl) ?_
  refine o_nil ?_
  refine x_then (hK1 _ _ ?_)
  refine c_seq fun _ hK2 => ?_
  refine c_region ?_
  refine o_step rfl (s_move rfl) ?_
  refine o_step rfl (s_len rfl) ?_
  refine o_step rfl (s_add rfl rfl (by omega)) ?_
  refine o_make (E := Esl) (zx := (⟨none, 0, []⟩ : Sl Int)) (n := rows.length + 64) rfl rfl rfl (by omega) (by omega) rfl fun b8 S8 hS8 => ?_
  rw [← filZ_nil] at hS8
  refine o_step rfl (s_assign rfl) ?_
  refine o_nil ?_
  refine x_then (hK2 _ _ ?_)
  refine c_seq fun _ hK3 => ?_
  refine c_seq fun _ hK4 => ?_
  refine c_region ?_
  refine o_step rfl (s_assign rfl) ?_
  refine o_nil ?_
  refine x_then (hK4 _ _ ?_)
  refine c_block ?_
  refine c_loop6 (fun (j : Nat) (hs : List (Sl Int)) (sps : List (Sl Int)) (SB : Hp) (SH : Hp) (SS : Hp) => j ≤ rows.length + 64 ∧ hs.length = min j rows.length ∧ sps.length = j - rows.length ∧ hs.map Sl.xs = (rows.take j).map Sl.xs ∧ Sps rows.length sps ∧ OwnS Esl 1 46 (.slice (some ⟨b8, 0, none⟩) (rows.length + 64) (rows.length + 64)) (filZ ⟨none, 0, []⟩ (hs ++ sps) (rows.length + 64)) SB ∧ OwnW hs SH ∧ OwnL Ei 1 3 sps (sps.map Sl.xs) SS) (fun (j : Nat) (hs : List (Sl Int)) (sps : List (Sl Int)) (SB : Hp) (SH : Hp) (SS : Hp) => [(4, .int .i64 j)]) [(0, _), (2, _), (3, _)] (fun (j : Nat) (hs : List (Sl Int)) (sps : List (Sl Int)) (SB : Hp) (SH : Hp) (SS : Hp) => SB ++ (SH ++ SS)) (fun (j : Nat) (hs : List (Sl Int)) (sps : List (Sl Int)) (SB : Hp) (SH : Hp) (SS : Hp) => rows.length + 64 - j) 0 [] [] S8 [] [] ⟨by omega, by simp, by simp, rfl, Sps.nil _, hS8, .nil, .nil⟩ sbA sbA (by show HSub _ (S8 ++ []); rw [List.append_nil]; exact hzB) ?_
  rintro j hs sps SB SH SS ⟨hj, hhl, hsl, hhm, hsp, hB, hH, hS⟩
  have hal : (hs ++ sps).length = j := by rw [List.length_append]; omega
  have hsb := hB.sl
  rw [filZ_len (by omega)] at hsb
  refine c_seq fun _ hK5 => ?_
  refine c_seq fun _ hK6 => ?_
  refine c_region ?_
  refine o_step rfl (s_move rfl) ?_
  refine o_step rfl (s_move rfl) ?_
  refine o_step rfl (s_len rfl) ?_
  by_cases hlt : j < rows.length + 64
  ·
   refine o_step rfl (step_cast (v' := .bool true) (s_lss rfl rfl) (congrArg Value.bool (decide_eq_true (by omega)))) ?_
   refine o_nil ?_
   refine x_then (hK6 _ _ ?_)
   refine c_true rfl ?_
   refine c_skip ?_
   refine x_then (hK5 _ _ ?_)
   refine c_seq fun _ hK7 => ?_
   refine c_block ?_
   refine c_seq fun _ hK8 => ?_
   refine c_region ?_
   refine o_step rfl (s_move rfl) ?_
   refine o_step rfl (s_move rfl) ?_
   refine o_step rfl (s_len rfl) ?_
   by_cases hin : j < rows.length
   ·
    obtain ⟨s, hsj⟩ : ∃ x, rows[j]? = some x := ⟨_, List.getElem?_eq_getElem (by omega)⟩
    have hsm := List.mem_of_getElem? hsj
    obtain rfl : sps = [] := List.eq_nil_of_length_eq_zero (by omega)
    rw [List.append_nil] at hB hal
    refine o_step rfl (step_cast (v' := .bool true) (s_lss rfl rfl) (congrArg Value.bool (decide_eq_true (by omega)))) ?_
    refine o_nil ?_
    refine x_then (hK8 _ _ ?_)
    refine c_true rfl ?_
    refine c_region ?_
    refine o_step rfl (s_move rfl) ?_
    refine o_step rfl (s_move rfl) ?_
    refine o_step rfl (s_move rfl) ?_
    refine o_step rfl (s_move rfl) ?_
    refine o_step rfl (s_idx rfl rfl hsx (by omega)) ?_
    refine o_step rfl (s_ld rfl ((RdK.old0 hw.1).ld j 0 hsj rfl (by decide) (by omega))) ?_
    refine o_call (wideZ_fn s.a s.c s.xs (hK s hsm)) rfl rfl rfl (by exact .nil) (fun w st => (RdK.old0 (hw.2 s hsm)).out w st) (fun v25 S25 ⟨a25, hv25, hS25⟩ => ?_)
    subst hv25
    refine o_step rfl (s_idx rfl rfl hsb (by omega)) ?_
    refine o_stS1 j (⟨a25, s.xs.length + 64, s.xs⟩ : Sl Int) hB pkA rfl rfl rfl (by rw [filZ_len (by omega)]; omega) (by omega) fun S26 hS26 => ?_
    rw [filZ_set hal (by omega)] at hS26
    refine o_nil ?_
    refine x_block ?_
    refine x_then (hK7 _ _ ?_)
    refine c_region ?_
    refine o_step rfl (s_move rfl) ?_
    refine o_step rfl (s_add rfl rfl (by omega)) ?_
    refine o_step rfl (s_assign rfl) ?_
    refine o_nil ?_
    exact x_then (x_inv (j + 1, hs ++ [⟨a25, s.xs.length + 64, s.xs⟩], [], S26, SH ++ S25, []) ⟨by omega, by rw [List.length_append, List.length_singleton]; omega, by simp; omega, by rw [map_take_succ hsj, ← hhm]; simp, Sps.nil _, by simpa using hS26, hH.snoc (s := ⟨a25, s.xs.length + 64, s.xs⟩) hS25, .nil⟩ (by first | omega | (dsimp only; omega)) sbA (by show HSub _ (S26 ++ ((SH ++ S25) ++ [])); rw [List.append_nil]; exact hzB))
   ·
    refine o_step rfl (step_cast (v' := .bool false) (s_lss rfl rfl) (congrArg Value.bool (decide_eq_false (by omega)))) ?_
    refine o_nil ?_
    refine x_then (hK8 _ _ ?_)
    refine c_false rfl ?_
    refine c_region ?_
    refine o_step rfl (s_move rfl) ?_
    refine o_step rfl (s_move rfl) ?_
    refine o_step rfl (s_move rfl) ?_
    refine o_callP (num_fn 9 j (by omega) (by omega)) rfl rfl rfl (fun _ _ => trivial) (fun v30 hv30 => ?_)
    subst hv30
    refine o_bs (E := Ei) (xs := [spZ j]) (vs := [_]) rfl rfl rfl rfl rfl (by decide) (by decide) fun b31 S31 hS31 => ?_
    refine o_step rfl (s_idx rfl rfl hsb (by omega)) ?_
    refine o_stS1 j (⟨some ⟨b31, 0, none⟩, 1, [spZ j]⟩ : Sl Int) hB pkA rfl rfl rfl (by rw [filZ_len (by omega)]; omega) (by omega) fun S32 hS32 => ?_
    rw [filZ_set hal (by omega)] at hS32
    refine o_nil ?_
    refine x_block ?_
    refine x_then (hK7 _ _ ?_)
    refine c_region ?_
    refine o_step rfl (s_move rfl) ?_
    refine o_step rfl (s_add rfl rfl (by omega)) ?_
    refine o_step rfl (s_assign rfl) ?_
    refine o_nil ?_
    exact x_then (x_inv (j + 1, hs, sps ++ [⟨some ⟨b31, 0, none⟩, 1, [spZ j]⟩], S32, SH, SS ++ S31) ⟨by omega, by dsimp only; omega, by rw [List.length_append, List.length_singleton]; dsimp only; omega, by rw [hhm, List.take_of_length_le (by omega), List.take_of_length_le (by omega)], hsp.snoc (by rw [show rows.length + sps.length = j by omega]), by rw [← List.append_assoc]; exact hS32, hH, by rw [List.map_append]; exact hS.snoc (s := ⟨some ⟨b31, 0, none⟩, 1, [spZ j]⟩) hS31⟩ (by first | omega | (dsimp only; omega)) sbA hzB)
  ·
   obtain rfl : j = rows.length + 64 := by omega
   rw [filZ_full (by omega)] at hB
   rw [List.take_of_length_le (by omega)] at hhm
   refine o_step rfl (step_cast (v' := .bool false) (s_lss rfl rfl) (congrArg Value.bool (decide_eq_false (by omega)))) ?_
   refine o_nil ?_
   refine x_then (hK6 _ _ ?_)
   refine c_false rfl ?_
   refine c_exit ?_
   refine x_then_exit ?_
   refine x_then_exit ?_
   refine x_block_exit ?_
   refine x_then (hK3 _ _ ?_)
   refine c_seq fun _ hK9 => ?_
   refine c_region ?_
   refine o_step rfl (s_move rfl) ?_
   refine o_step rfl (s_move rfl) ?_
   refine o_step rfl (s_len rfl) ?_
   refine o_step rfl (s_slice_hi rfl rfl (by omega)) ?_
   refine o_step rfl (s_assign rfl) ?_
   refine o_nil ?_
   refine x_then (hK9 _ _ ?_)
   refine c_ret ?_
   refine ?_
   refine x_sub (Sub.refl _) (H' := SB ++ (SH ++ SS)) hzB ?_
   exact x_ret rfl (.tmp rfl (.nil)) (⟨_, hs, sps, SB, SH, SS, rfl, rfl, by rw [hal]; exact hB, hH, hS, hhm, by omega, hsp⟩)
set_option maxHeartbeats 1000000 in
theorem spareIntss_fn (a : Option Addr) (c : Nat) (hs sps : List (Sl Int)) (hn : hs.length ≤ 2147483647) (hK : ∀ s ∈ hs, s.xs.length ≤ 2147483647) (hsl : sps.length = 64) (hsp : Sps hs.length sps) : HL.Fn Tryd.prog 46 [.slice a hs.length c] (fun w => Rd Esl w (.slice a (hs ++ sps).length c) (hs ++ sps) ∧ (∀ s ∈ hs, Rd Ei w (.slice s.a (wdl spZ s.xs).length s.c) (wdl spZ s.xs)) ∧ ∀ s ∈ sps, Rd Ei w s.v s.xs) [] (fun v _ => v = .bool true) := by
  refine fn_of Tryd.func46 rfl rfl rfl fun w0 hw => ?_
  have hal : (hs ++ sps).length = hs.length + 64 := by rw [List.length_append]; omega
  have hsx := hw.1.sl
  have hc := hsx.cap
  have hpr := hw.1.pref hs.length
  rw [List.take_left] at hpr
  have hsh := hpr.sl
  have hbh := hsh.le
  refine c_seq fun _ hK1 => ?_
  refine c_region ?_
  refine o_step rfl (s_assign rfl) ?_
  refine o_nil ?_
  refine x_then (hK1 _ _ ?_)
  refine c_seq fun _ hK2 => ?_
  refine c_region ?_
  refine o_step rfl (s_move rfl) ?_
  refine o_step rfl (s_move rfl) ?_
  refine o_step rfl (s_len rfl) ?_
  refine o_step rfl (s_add rfl rfl (by omega)) ?_
  refine o_step rfl (s_slice_hi rfl rfl (by omega)) ?_
  rw [show ((hs.length : Int) + 64).toNat = (hs ++ sps).length from by omega]
  refine o_step rfl (s_assign rfl) ?_
  refine o_nil ?_
  refine x_then (hK2 _ _ ?_)
  refine c_seq fun _ hK3 => ?_
  refine c_seq fun _ hK4 => ?_
  refine c_region ?_
  refine o_step rfl (s_move rfl) ?_
  refine o_step rfl (s_len rfl) ?_
  refine o_step rfl (s_assign rfl) ?_
  refine o_nil ?_
  refine x_then (hK4 _ _ ?_)
  refine c_block ?_
  -- not carried: 2
  refine c_loopB (fun (j : Nat) => hs.length ≤ j ∧ j ≤ hs.length + 64) (fun (j : Nat) => [(4, .int .i64 j)]) [(0, _), (3, _)] (fun (j : Nat) => []) (fun (j : Nat) => hs.length + 64 - j) hs.length ⟨by omega, by omega⟩ sbA sbA hzB ?_
  rintro j ⟨hj1, hj2⟩
  refine c_seq fun _ hK5 => ?_
  refine c_seq fun _ hK6 => ?_
  refine c_region ?_
  refine o_step rfl (s_move rfl) ?_
  refine o_step rfl (s_move rfl) ?_
  refine o_step rfl (s_len rfl) ?_
  by_cases hlt : j < (hs ++ sps).length
  ·
   obtain ⟨s, hsj⟩ : ∃ x, sps[j - hs.length]? = some x := ⟨_, List.getElem?_eq_getElem (by omega)⟩
   have hsm := List.mem_of_getElem? hsj
   have hsx1 : s.xs = [spZ j] := by rw [hsp _ s hsj, show hs.length + (j - hs.length) = j by omega]
   have haj : (hs ++ sps)[j]? = some s := by rw [List.getElem?_append_right (by omega)]; exact hsj
   refine o_step rfl (step_cast (v' := .bool true) (s_lss rfl rfl) (congrArg Value.bool (decide_eq_true (by omega)))) ?_
   refine o_nil ?_
   refine x_then (hK6 _ _ ?_)
   refine c_true rfl ?_
   refine c_skip ?_
   refine x_then (hK5 _ _ ?_)
   refine c_seq fun _ hK7 => ?_
   refine c_block ?_
   refine c_seq fun _ hK8 => ?_
   refine c_drawE ([]) (fun i => false) ?_
   refine e_pure 0 rfl (by kernel_rfl) (by kernel_rfl) (by kernel_rfl) rfl (s_move rfl) ?_
   refine e_pure 1 rfl (by kernel_rfl) (by kernel_rfl) (by kernel_rfl) rfl (s_move rfl) ?_
   refine e_pure 2 rfl (by kernel_rfl) (by kernel_rfl) (by kernel_rfl) rfl (s_idx rfl rfl hsx (by omega)) ?_
   refine e_take 3 rfl (by kernel_rfl) (by kernel_rfl) (by kernel_rfl) (by kernel_rfl) (fun _ _ => rfl) rfl (by exact HSub.nil) (s_ld rfl ((RdK.old0 hw.1).ld j 0 haj rfl (by decide) (by omega))) ?_
   refine e_pure 4 rfl (by kernel_rfl) (by kernel_rfl) (by kernel_rfl) rfl (s_move rfl) ?_
   refine e_one 5 rfl (by kernel_rfl) ?_
   refine o_callP (num_fn 9 j (by omega) (by omega)) rfl rfl rfl (fun _ _ => trivial) (fun v24 hv24 => ?_)
   subst hv24
   refine o_nil ?_
   refine x_oneS (by exact HSub.nil) ?_
   refine e_one 6 rfl (by kernel_rfl) ?_
   refine o_bs (E := Ei) (xs := [spZ j]) (vs := [_]) rfl rfl rfl rfl rfl (by decide) (by decide) fun b25 S25 hS25 => ?_
   refine o_nil ?_
   refine x_oneS (by exact HSub.nil) ?_
   refine e_one 7 rfl (by kernel_rfl) ?_
   refine o_callP (eqZ_fn s.a (some ⟨b25, 0, none⟩) s.c 1 s.xs [spZ j]) rfl rfl rfl (fun w st => ⟨(RdK.old0 (hw.2.2 s hsm)).out w st, (hS25.rdk hiA).out w st⟩) (fun v26 hv26 => ?_)
   rw [decide_eq_true hsx1] at hv26
   subst hv26
   refine o_nil ?_
   refine x_oneS (by exact HSub.nil) ?_
   refine e_pure 8 rfl (by kernel_rfl) (by kernel_rfl) (by kernel_rfl) rfl (s_not rfl) ?_
   refine e_done (by kernel_rfl) ?_
   refine x_then (hK8 _ _ ?_)
   refine c_false rfl ?_
   refine c_skip ?_
   refine x_block ?_
   refine x_then (hK7 _ _ ?_)
   refine c_region ?_
   refine o_step rfl (s_move rfl) ?_
   refine o_step rfl (s_add rfl rfl (by omega)) ?_
   refine o_step rfl (s_assign rfl) ?_
   refine o_nil ?_
   exact x_then (x_inv (j + 1) ⟨by omega, by omega⟩ (by first | omega | (dsimp only; omega)) sbA hzB)
  ·
   refine o_step rfl (step_cast (v' := .bool false) (s_lss rfl rfl) (congrArg Value.bool (decide_eq_false (by omega)))) ?_
   refine o_nil ?_
   refine x_then (hK6 _ _ ?_)
   refine c_false rfl ?_
   refine c_exit ?_
   refine x_then_exit ?_
   refine x_then_exit ?_
   refine x_block_exit ?_
   refine x_then (hK3 _ _ ?_)
   refine c_seq fun _ hK9 => ?_
   refine c_seq fun _ hK10 => ?_
   refine c_region ?_
   refine o_step rfl (s_assign rfl) ?_
   refine o_nil ?_
   refine x_then (hK10 _ _ ?_)
   refine c_block ?_
   refine c_loopB (fun (i : Nat) => i ≤ hs.length) (fun (i : Nat) => [(5, .int .i64 i)]) [(0, _)] (fun (i : Nat) => []) (fun (i : Nat) => hs.length - i) 0 (by omega) sbA sbA hzB ?_
   rintro i hi
   refine c_seq fun _ hK11 => ?_
   refine c_seq fun _ hK12 => ?_
   refine c_region ?_
   refine o_step rfl (s_move rfl) ?_
   refine o_step rfl (s_move rfl) ?_
   refine o_step rfl (s_len rfl) ?_
   by_cases hlt : i < hs.length
   ·
    obtain ⟨s, hsi⟩ : ∃ x, hs[i]? = some x := ⟨_, List.getElem?_eq_getElem (by omega)⟩
    have hsm := List.mem_of_getElem? hsi
    refine o_step rfl (step_cast (v' := .bool true) (s_lss rfl rfl) (congrArg Value.bool (decide_eq_true (by omega)))) ?_
    refine o_nil ?_
    refine x_then (hK12 _ _ ?_)
    refine c_true rfl ?_
    refine c_skip ?_
    refine x_then (hK11 _ _ ?_)
    refine c_seq fun _ hK13 => ?_
    refine c_block ?_
    refine c_seq fun _ hK14 => ?_
    refine c_region ?_
    refine o_step rfl (s_move rfl) ?_
    refine o_step rfl (s_move rfl) ?_
    refine o_step rfl (s_idx rfl rfl hsh (by omega)) ?_
    refine o_step rfl (s_ld rfl ((RdK.old0 hpr).ld i 0 hsi rfl (by decide) (by omega))) ?_
    refine o_callP (spareZ_fn s.a s.c s.xs (hK s hsm)) rfl rfl rfl (fun w st => (RdK.old0 (hw.2.1 s hsm)).out w st) (fun v38 hv38 => ?_)
    subst hv38
    refine o_step rfl (s_not rfl) ?_
    refine o_nil ?_
    refine x_then (hK14 _ _ ?_)
    refine c_false rfl ?_
    refine c_skip ?_
    refine x_block ?_
    refine x_then (hK13 _ _ ?_)
    refine c_region ?_
    refine o_step rfl (s_move rfl) ?_
    refine o_step rfl (s_add rfl rfl (by omega)) ?_
    refine o_step rfl (s_assign rfl) ?_
    refine o_nil ?_
    exact x_then (x_inv (i + 1) (by omega) (by first | omega | (dsimp only; omega)) sbA hzB)
   ·
    refine o_step rfl (step_cast (v' := .bool false) (s_lss rfl rfl) (congrArg Value.bool (decide_eq_false (by omega)))) ?_
    refine o_nil ?_
    refine x_then (hK12 _ _ ?_)
    refine c_false rfl ?_
    refine c_exit ?_
    refine x_then_exit ?_
    refine x_then_exit ?_
    refine x_block_exit ?_
    refine x_then (hK9 _ _ ?_)
    refine c_seq fun _ hK15 => ?_
    refine c_region ?_
    refine o_step rfl (s_assign rfl) ?_
    refine o_nil ?_
    refine x_then (hK15 _ _ ?_)
    refine c_ret ?_
    refine ?_
    exact x_ret rfl (.tmp rfl (.nil)) (rfl)
set_option maxHeartbeats 1000000 in
theorem copyIntss_fn (a : Option Addr) (c : Nat) (rows : List (Sl Int)) (hn : rows.length ≤ 2147483647) (hK : ∀ s ∈ rows, s.xs.length ≤ 2147483647) : HL.Fn Tryd.prog 54 [.slice a rows.length c] (fun w => Rd Esl w (.slice a rows.length c) rows ∧ ∀ s ∈ rows, Rd Ei w s.v s.xs) [] (fun v S' => ∃ a' c' hs SB SH, v = .slice a' hs.length c' ∧ S' = SB ++ SH ∧ OwnS Esl 1 46 (.slice a' hs.length c') hs SB ∧ OwnL Ei 1 3 hs (hs.map Sl.xs) SH ∧ hs.map Sl.xs = rows.map Sl.xs) := by
  refine fn_of Tryd.func54 rfl rfl rfl fun w0 hw => ?_
  have hsx := hw.1.sl
  have hbx := hsx.le
  refine c_seq fun _ hK1 => ?_
  refine c_region ?_
  refine o_step rfl (s_assign rfl) ?_
  refine o_nil ?_
  refine x_then (hK1 _ _ ?_)
  refine c_seq fun _ hK2 => ?_
  refine c_region ?_
  refine o_step rfl (s_assign rfl) ?_
  refine o_nil ?_
  refine x_then (hK2 _ _ ?_)
  refine c_seq fun _ hK3 => ?_
  refine c_seq fun _ hK4 => ?_
  refine c_region ?_
  refine o_step rfl (s_assign rfl) ?_
  refine o_nil ?_
  refine x_then (hK4 _ _ ?_)
  refine c_block ?_
  refine c_loop6 (fun (i : Nat) (hs : List (Sl Int)) (ha : Option Addr) (hc : Nat) (SB : Hp) (SH : Hp) => i ≤ rows.length ∧ hs.length = i ∧ hs.map Sl.xs = (rows.take i).map Sl.xs ∧ OwnS Esl 1 46 (.slice ha hs.length hc) hs SB ∧ OwnL Ei 1 3 hs (hs.map Sl.xs) SH) (fun (i : Nat) (hs : List (Sl Int)) (ha : Option Addr) (hc : Nat) (SB : Hp) (SH : Hp) => [(4, .int .i64 i), (3, .slice ha hs.length hc)]) [(0, _), (2, _)] (fun (i : Nat) (hs : List (Sl Int)) (ha : Option Addr) (hc : Nat) (SB : Hp) (SH : Hp) => SB ++ SH) (fun (i : Nat) (hs : List (Sl Int)) (ha : Option Addr) (hc : Nat) (SB : Hp) (SH : Hp) => rows.length - i) 0 [] none 0 [] [] ⟨by omega, rfl, rfl, OwnS.nil, .nil⟩ sbA sbA hzB ?_
  rintro i hs ha hc SB SH ⟨hi, hhl, hhm, hB, hH⟩
  refine c_seq fun _ hK5 => ?_
  refine c_seq fun _ hK6 => ?_
  refine c_region ?_
  refine o_step rfl (s_move rfl) ?_
  refine o_step rfl (s_move rfl) ?_
  refine o_step rfl (s_len rfl) ?_
  by_cases hlt : i < rows.length
  ·
   obtain ⟨s, hsi⟩ : ∃ x, rows[i]? = some x := ⟨_, List.getElem?_eq_getElem (by omega)⟩
   have hsm := List.mem_of_getElem? hsi
   refine o_step rfl (step_cast (v' := .bool true) (s_lss rfl rfl) (congrArg Value.bool (decide_eq_true (by omega)))) ?_
   refine o_nil ?_
   refine x_then (hK6 _ _ ?_)
   refine c_true rfl ?_
   refine c_skip ?_
   refine x_then (hK5 _ _ ?_)
   refine c_seq fun _ hK7 => ?_
   refine c_block ?_
   refine c_region ?_
   refine o_step rfl (s_move rfl) ?_
   refine o_step rfl (s_move rfl) ?_
   refine o_step rfl (s_move rfl) ?_
   refine o_step rfl (s_idx rfl rfl hsx (by omega)) ?_
   refine o_step rfl (s_ld rfl ((RdK.old0 hw.1).ld i 0 hsi rfl (by decide) (by omega))) ?_
   refine o_call (copyZ_fn s.a s.c s.xs (by have := hK s hsm; omega)) rfl rfl rfl (by exact .nil) (fun w st => (RdK.old0 (hw.2 s hsm)).out w st) (fun v16 S16 ⟨a16, c16, hv16, hS16⟩ => ?_)
   subst hv16
   refine o_bs (E := Esl) (xs := [(⟨a16, c16, s.xs⟩ : Sl Int)]) (vs := [_]) rfl rfl rfl rfl rfl (by decide) (by decide) fun b17 S17 hS17 => ?_
   refine o_app hB (hS17.rdk hiA) rfl rfl rfl rfl (by simp only [List.length_append, List.length_singleton]; omega) (by simp only [List.length_append, List.length_singleton]; omega) rfl pkA fun a18 c18 S18 hS18 => ?_
   refine o_step rfl (s_assign rfl) ?_
   refine o_nil ?_
   refine x_block ?_
   refine x_then (hK7 _ _ ?_)
   refine c_region ?_
   refine o_step rfl (s_move rfl) ?_
   refine o_step rfl (s_add rfl rfl (by omega)) ?_
   refine o_step rfl (s_assign rfl) ?_
   refine o_nil ?_
   exact x_then (x_inv (i + 1, hs ++ [⟨a16, c16, s.xs⟩], a18, c18, S18, SH ++ S16) ⟨by omega, by rw [List.length_append, hhl]; rfl, by rw [map_take_succ hsi, ← hhm]; simp, hS18, by rw [List.map_append]; exact hH.snoc (s := ⟨a16, c16, s.xs⟩) hS16⟩ (by first | omega | (dsimp only; omega)) sbA hzB)
  ·
   rw [List.take_of_length_le (by omega)] at hhm
   refine o_step rfl (step_cast (v' := .bool false) (s_lss rfl rfl) (congrArg Value.bool (decide_eq_false (by omega)))) ?_
   refine o_nil ?_
   refine x_then (hK6 _ _ ?_)
   refine c_false rfl ?_
   refine c_exit ?_
   refine x_then_exit ?_
   refine x_then_exit ?_
   refine x_block_exit ?_
   refine x_then (hK3 _ _ ?_)
   refine c_seq fun _ hK8 => ?_
   refine c_region ?_
   refine o_step rfl (s_move rfl) ?_
   refine o_step rfl (s_assign rfl) ?_
   refine o_nil ?_
   refine x_then (hK8 _ _ ?_)
   refine c_ret ?_
   refine ?_
   refine x_sub (Sub.refl _) (H' := SB ++ SH) hzB ?_
   exact x_ret rfl (.tmp rfl (.nil)) (⟨_, _, hs, SB, SH, rfl, rfl, hB, hH, hhm⟩)
theorem df_ext {d1 d2 : Df} (h1 : d1.atoms = d2.atoms) (h2 : d1.next = d2.next) (h3 : d1.ends = d2.ends) : d1 = d2 := by
  cases d1; cases d2; simp_all
set_option maxHeartbeats 1000000 in
theorem wideDfa_fn (d : Df) (aa : Option Addr) (ac : Nat) (na : Option Addr) (nc : Nat) (rows : List (Sl Int)) (ea : Option Addr) (ec : Nat) (hx : d.next = rows.map Sl.xs) (hz : Sml d rows) : HL.Fn Tryd.prog 10 [.agg [.slice aa d.atoms.length ac, .slice na rows.length nc, .slice ea d.ends.length ec].toArray] (fun w => RdD d aa ac na nc rows ea ec w) [] (fun v S' => ∃ S2, HSub S' S2 ∧ WdO d v S2) := by
  refine fn_of Tryd.func10 rfl rfl rfl fun w0 hw => ?_
  refine c_seq fun _ hK1 => ?_
  refine c_region ?_
  refine o_box rfl rfl rfl fun b1 => ?_
  refine o_alloc rfl rfl fun b2 => ?_
  refine o_nil ?_
  refine x_then (hK1 _ _ ?_)
  refine c_seq fun _ hK2 => ?_
  refine c_drawE ([(b1, .cells [.slice aa d.atoms.length ac, .slice na rows.length nc, .slice ea d.ends.length ec].toArray 26 (0, 0))]) (fun i => false) ?_
  refine e_pure 0 rfl (by kernel_rfl) (by kernel_rfl) (by kernel_rfl) rfl (s_field rfl rfl (by decide)) ?_
  refine e_take 1 rfl (by kernel_rfl) (by kernel_rfl) (by kernel_rfl) (by kernel_rfl) (fun _ _ => rfl) rfl hzB (s_ld rfl (.own meA rfl)) ?_
  refine e_pure 3 rfl (by kernel_rfl) (by kernel_rfl) (by kernel_rfl) rfl (s_field rfl rfl (by decide)) ?_
  refine e_take 4 rfl (by kernel_rfl) (by kernel_rfl) (by kernel_rfl) (by kernel_rfl) (fun _ _ => rfl) rfl hzB (s_ld rfl (.own meA rfl)) ?_
  refine e_pure 6 rfl (by kernel_rfl) (by kernel_rfl) (by kernel_rfl) rfl (s_field rfl rfl (by decide)) ?_
  refine e_take 7 rfl (by kernel_rfl) (by kernel_rfl) (by kernel_rfl) (by kernel_rfl) (fun _ _ => rfl) rfl hzB (s_ld rfl (.own meA rfl)) ?_
  refine e_one 2 rfl (by kernel_rfl) ?_
  refine o_call (wideC_fn aa ac d.atoms (by have := hz.at_; omega)) rfl rfl rfl (by exact .nil) (fun w st => (RdK.old0 hw.at_).out w st) (fun v5 S5 ⟨a5, hv5, hS5⟩ => ?_)
  subst hv5
  refine o_nil ?_
  refine x_oneS hzB ?_
  refine e_one 5 rfl (by kernel_rfl) ?_
  refine o_call (wideIntss_fn na nc rows (by have := hz.nx; omega) (fun s hs => by have := hz.rw_ s hs; omega)) rfl rfl rfl (by exact .nil) (fun w st => ⟨(RdK.old0 hw.nx).out w st, fun s hs => (RdK.old0 (hw.rw_ s hs)).out w st⟩) (fun v8 S8 ⟨a8, hs, sps, SB, SH, SS, hv8, hS8, hB, hH, hS, hhm, hsl, hsp⟩ => ?_)
  have hhl : hs.length = rows.length := by have := congrArg List.length hhm; simpa using this
  rw [← hhl] at hv8 hB hsp
  subst hv8
  subst hS8
  refine o_nil ?_
  refine x_oneS hzB ?_
  refine e_one 8 rfl (by kernel_rfl) ?_
  refine o_call (wideB_fn ea ec d.ends (by have := hz.en; omega)) rfl rfl rfl (by exact .nil) (fun w st => (RdK.old0 hw.en).out w st) (fun v11 S11 ⟨a11, hv11, hS11⟩ => ?_)
  subst hv11
  refine o_nil ?_
  refine x_oneS hzB ?_
  refine e_pure 9 rfl (by kernel_rfl) (by kernel_rfl) (by kernel_rfl) rfl (s_build (cs := [_, _, _]) (vs := [_, _, _]) rfl rfl (.cons rfl rfl rfl rfl rfl (.cons rfl rfl rfl rfl rfl (.cons rfl rfl rfl rfl rfl (.nil))))) ?_
  refine e_one 10 rfl (by kernel_rfl) ?_
  refine o_stW rfl rfl upA lnA lnA onA ?_
  refine o_nil ?_
  refine x_oneS hzB ?_
  refine e_done (by kernel_rfl) ?_
  refine x_then (hK2 _ _ ?_)
  refine c_ret ?_
  refine ?_
  exact x_ret rfl (.agg inferInstance inferInstance rfl (RdPK.cels (.own meA)) lnA (.nil)) (⟨S5 ++ (SB ++ (SH ++ (SS ++ S11))), by exact hzB, a5, a8, a11, hs, sps, S5, SB, SH, SS, S11, rfl, rfl, hS5, hB, hH, hS, hS11, by rw [hx, hhm], hsl, hsp⟩)
set_option maxHeartbeats 1000000 in
theorem copyDfa_fn (d : Df) (aa : Option Addr) (ac : Nat) (na : Option Addr) (nc : Nat) (rows : List (Sl Int)) (ea : Option Addr) (ec : Nat) (hx : d.next = rows.map Sl.xs) (hz : Sml d rows) : HL.Fn Tryd.prog 20 [.agg [.slice aa d.atoms.length ac, .slice na rows.length nc, .slice ea d.ends.length ec].toArray] (fun w => RdD d aa ac na nc rows ea ec w) [] (fun v S' => ∃ S2, HSub S' S2 ∧ DfO d v S2) := by
  refine fn_of Tryd.func20 rfl rfl rfl fun w0 hw => ?_
  refine c_seq fun _ hK1 => ?_
  refine c_region ?_
  refine o_box rfl rfl rfl fun b1 => ?_
  refine o_alloc rfl rfl fun b2 => ?_
  refine o_nil ?_
  refine x_then (hK1 _ _ ?_)
  refine c_seq fun _ hK2 => ?_
  refine c_drawE ([(b1, .cells [.slice aa d.atoms.length ac, .slice na rows.length nc, .slice ea d.ends.length ec].toArray 26 (0, 0))]) (fun i => false) ?_
  refine e_pure 0 rfl (by kernel_rfl) (by kernel_rfl) (by kernel_rfl) rfl (s_field rfl rfl (by decide)) ?_
  refine e_take 1 rfl (by kernel_rfl) (by kernel_rfl) (by kernel_rfl) (by kernel_rfl) (fun _ _ => rfl) rfl hzB (s_ld rfl (.own meA rfl)) ?_
  refine e_pure 3 rfl (by kernel_rfl) (by kernel_rfl) (by kernel_rfl) rfl (s_field rfl rfl (by decide)) ?_
  refine e_take 4 rfl (by kernel_rfl) (by kernel_rfl) (by kernel_rfl) (by kernel_rfl) (fun _ _ => rfl) rfl hzB (s_ld rfl (.own meA rfl)) ?_
  refine e_pure 6 rfl (by kernel_rfl) (by kernel_rfl) (by kernel_rfl) rfl (s_field rfl rfl (by decide)) ?_
  refine e_take 7 rfl (by kernel_rfl) (by kernel_rfl) (by kernel_rfl) (by kernel_rfl) (fun _ _ => rfl) rfl hzB (s_ld rfl (.own meA rfl)) ?_
  refine e_one 2 rfl (by kernel_rfl) ?_
  refine o_call (copyC_fn aa ac d.atoms (by have := hz.at_; omega)) rfl rfl rfl (by exact .nil) (fun w st => (RdK.old0 hw.at_).out w st) (fun v5 S5 ⟨a5, c5, hv5, hS5⟩ => ?_)
  subst hv5
  refine o_nil ?_
  refine x_oneS hzB ?_
  refine e_one 5 rfl (by kernel_rfl) ?_
  refine o_call (copyIntss_fn na nc rows (by have := hz.nx; omega) (fun s hs => by have := hz.rw_ s hs; omega)) rfl rfl rfl (by exact .nil) (fun w st => ⟨(RdK.old0 hw.nx).out w st, fun s hs => (RdK.old0 (hw.rw_ s hs)).out w st⟩) (fun v8 S8 ⟨a8, c8, hs, SB, SH, hv8, hS8, hB, hH, hhm⟩ => ?_)
  subst hv8
  subst hS8
  refine o_nil ?_
  refine x_oneS hzB ?_
  refine e_one 8 rfl (by kernel_rfl) ?_
  refine o_call (copyB_fn ea ec d.ends (by have := hz.en; omega)) rfl rfl rfl (by exact .nil) (fun w st => (RdK.old0 hw.en).out w st) (fun v11 S11 ⟨a11, c11, hv11, hS11⟩ => ?_)
  subst hv11
  refine o_nil ?_
  refine x_oneS hzB ?_
  refine e_pure 9 rfl (by kernel_rfl) (by kernel_rfl) (by kernel_rfl) rfl (s_build (cs := [_, _, _]) (vs := [_, _, _]) rfl rfl (.cons rfl rfl rfl rfl rfl (.cons rfl rfl rfl rfl rfl (.cons rfl rfl rfl rfl rfl (.nil))))) ?_
  refine e_one 10 rfl (by kernel_rfl) ?_
  refine o_stW rfl rfl upA lnA lnA onA ?_
  refine o_nil ?_
  refine x_oneS hzB ?_
  refine e_done (by kernel_rfl) ?_
  refine x_then (hK2 _ _ ?_)
  refine c_ret ?_
  refine ?_
  exact x_ret rfl (.agg inferInstance inferInstance rfl (RdPK.cels (.own meA)) lnA (.nil)) (⟨SB ++ (SH ++ (S11 ++ S5)), by exact hzB, a8, c8, hs, a11, c11, a5, c5, SB, SH, S11, S5, rfl, rfl, hB, by rw [hx, ← hhm]; exact hH, by rw [hx, hhm], hS11, hS5⟩)
set_option maxHeartbeats 1000000 in
theorem eqDfa_fn (d1 : Df) (aa1 : Option Addr) (ac1 : Nat) (na1 : Option Addr) (nc1 : Nat) (rows1 : List (Sl Int)) (ea1 : Option Addr) (ec1 : Nat) (hx1 : d1.next = rows1.map Sl.xs) (d2 : Df) (aa2 : Option Addr) (ac2 : Nat) (na2 : Option Addr) (nc2 : Nat) (rows2 : List (Sl Int)) (ea2 : Option Addr) (ec2 : Nat) (hx2 : d2.next = rows2.map Sl.xs) : HL.Fn Tryd.prog 14 [.agg [.slice aa1 d1.atoms.length ac1, .slice na1 rows1.length nc1, .slice ea1 d1.ends.length ec1].toArray, .agg [.slice aa2 d2.atoms.length ac2, .slice na2 rows2.length nc2, .slice ea2 d2.ends.length ec2].toArray] (fun w => RdD d1 aa1 ac1 na1 nc1 rows1 ea1 ec1 w ∧ RdD d2 aa2 ac2 na2 nc2 rows2 ea2 ec2 w) [] (fun v _ => v = .bool (decide (d1 = d2))) := by
  refine fn_of Tryd.func14 rfl rfl rfl fun w0 hw => ?_
  obtain ⟨hw1, hw2⟩ := hw
  refine c_seq fun _ hK1 => ?_
  refine c_region ?_
  refine o_box rfl rfl rfl fun b2 => ?_
  refine o_box rfl rfl rfl fun b3 => ?_
  refine o_step rfl (s_assign rfl) ?_
  refine o_nil ?_
  refine x_then (hK1 _ _ ?_)
  refine c_seq fun _ hK2 => ?_
  refine c_region ?_
  refine o_step rfl (s_field rfl rfl (by decide)) ?_
  refine o_step rfl (s_ld rfl (.own meA rfl)) ?_
  refine o_step rfl (s_field rfl rfl (by decide)) ?_
  refine o_step rfl (s_ld rfl (.own meA rfl)) ?_
  refine o_callP (eqC_fn aa1 aa2 ac1 ac2 d1.atoms d2.atoms) rfl rfl rfl (fun w st => ⟨(RdK.old0 hw1.at_).out w st, (RdK.old0 hw2.at_).out w st⟩) (fun v9 hv9 => ?_)
  cases hq9 : decide (d1.atoms = d2.atoms)
  ·
   rw [hq9] at hv9
   subst hv9
   have h1 := of_decide_eq_false hq9
   refine o_step rfl (s_move rfl) ?_
   refine o_no rfl rfl rfl rfl ?_
   refine o_no rfl rfl rfl rfl ?_
   refine o_no rfl rfl rfl rfl ?_
   refine o_no rfl rfl rfl rfl ?_
   refine o_no rfl rfl rfl rfl ?_
   refine o_step rfl (s_pick_f rfl rfl) ?_
   refine o_step rfl (s_move rfl) ?_
   refine o_no rfl rfl rfl rfl ?_
   refine o_no rfl rfl rfl rfl ?_
   refine o_no rfl rfl rfl rfl ?_
   refine o_no rfl rfl rfl rfl ?_
   refine o_no rfl rfl rfl rfl ?_
   refine o_step rfl (s_pick_f rfl rfl) ?_
   refine o_step rfl (s_assign rfl) ?_
   refine o_nil ?_
   refine x_then (hK2 _ _ ?_)
   refine c_ret ?_
   refine ?_
   exact x_ret rfl (.tmp rfl (.nil)) ((congrArg Value.bool (decide_eq_false (fun e => h1 (by rw [e]))).symm))
  ·
   rw [hq9] at hv9
   subst hv9
   have h1 := of_decide_eq_true hq9
   refine o_step rfl (s_move rfl) ?_
   refine o_yes rfl rfl ?_
   refine o_step rfl (s_field rfl rfl (by decide)) ?_
   refine o_yes rfl rfl ?_
   refine o_step rfl (s_ld rfl (.own meA rfl)) ?_
   refine o_yes rfl rfl ?_
   refine o_step rfl (s_field rfl rfl (by decide)) ?_
   refine o_yes rfl rfl ?_
   refine o_step rfl (s_ld rfl (.own meA rfl)) ?_
   refine o_yes rfl rfl ?_
   refine o_callP (eqIntss_fn na1 na2 nc1 nc2 rows1 rows2) rfl rfl rfl (fun w st => ⟨(RdK.old0 hw1.nx).out w st, (RdK.old0 hw2.nx).out w st, fun s hs => (RdK.old0 (hw1.rw_ s hs)).out w st, fun s hs => (RdK.old0 (hw2.rw_ s hs)).out w st⟩) (fun v15 hv15 => ?_)
   cases hq15 : decide (rows1.map Sl.xs = rows2.map Sl.xs)
   ·
    rw [hq15] at hv15
    subst hv15
    have h2 := of_decide_eq_false hq15
    refine o_step rfl (s_pick_t rfl rfl) ?_
    refine o_step rfl (s_move rfl) ?_
    refine o_no rfl rfl rfl rfl ?_
    refine o_no rfl rfl rfl rfl ?_
    refine o_no rfl rfl rfl rfl ?_
    refine o_no rfl rfl rfl rfl ?_
    refine o_no rfl rfl rfl rfl ?_
    refine o_step rfl (s_pick_f rfl rfl) ?_
    refine o_step rfl (s_assign rfl) ?_
    refine o_nil ?_
    refine x_then (hK2 _ _ ?_)
    refine c_ret ?_
    refine ?_
    exact x_ret rfl (.tmp rfl (.nil)) ((congrArg Value.bool (decide_eq_false (fun e => h2 (by rw [← hx1, ← hx2, e]))).symm))
   ·
    rw [hq15] at hv15
    subst hv15
    have h2 := of_decide_eq_true hq15
    refine o_step rfl (s_pick_t rfl rfl) ?_
    refine o_step rfl (s_move rfl) ?_
    refine o_yes rfl rfl ?_
    refine o_step rfl (s_field rfl rfl (by decide)) ?_
    refine o_yes rfl rfl ?_
    refine o_step rfl (s_ld rfl (.own meA rfl)) ?_
    refine o_yes rfl rfl ?_
    refine o_step rfl (s_field rfl rfl (by decide)) ?_
    refine o_yes rfl rfl ?_
    refine o_step rfl (s_ld rfl (.own meA rfl)) ?_
    refine o_yes rfl rfl ?_
    refine o_callP (eqB_fn ea1 ea2 ec1 ec2 d1.ends d2.ends) rfl rfl rfl (fun w st => ⟨(RdK.old0 hw1.en).out w st, (RdK.old0 hw2.en).out w st⟩) (fun v22 hv22 => ?_)
    cases hq22 : decide (d1.ends = d2.ends)
    ·
     rw [hq22] at hv22
     subst hv22
     have h3 := of_decide_eq_false hq22
     refine o_step rfl (s_pick_t rfl rfl) ?_
     refine o_step rfl (s_assign rfl) ?_
     refine o_nil ?_
     refine x_then (hK2 _ _ ?_)
     refine c_ret ?_
     refine ?_
     exact x_ret rfl (.tmp rfl (.nil)) ((congrArg Value.bool (decide_eq_false (fun e => h3 (by rw [e]))).symm))
    ·
     rw [hq22] at hv22
     subst hv22
     have h3 := of_decide_eq_true hq22
     refine o_step rfl (s_pick_t rfl rfl) ?_
     refine o_step rfl (s_assign rfl) ?_
     refine o_nil ?_
     refine x_then (hK2 _ _ ?_)
     refine c_ret ?_
     refine ?_
     exact x_ret rfl (.tmp rfl (.nil)) ((congrArg Value.bool (decide_eq_true (df_ext h1 (by rw [hx1, hx2, h2]) h3)).symm))
set_option maxHeartbeats 1000000 in
theorem spareDfa_fn (d : Df) (aC aR aE : Option Addr) (cC cR cE : Nat) (hs sps : List (Sl Int)) (hz : Sml d hs) (hsl : sps.length = 64) (hsp : Sps hs.length sps) : HL.Fn Tryd.prog 15 [.agg [.slice aC d.atoms.length cC, .slice aR hs.length cR, .slice aE d.ends.length cE].toArray] (fun w => Rd Ec w (.slice aC (wdl spC d.atoms).length cC) (wdl spC d.atoms) ∧ Rd Esl w (.slice aR (hs ++ sps).length cR) (hs ++ sps) ∧ (∀ s ∈ hs, Rd Ei w (.slice s.a (wdl spZ s.xs).length s.c) (wdl spZ s.xs)) ∧ (∀ s ∈ sps, Rd Ei w s.v s.xs) ∧ Rd Ebo w (.slice aE (wdl spBo d.ends).length cE) (wdl spBo d.ends)) [] (fun v _ => v = .bool true) := by
  refine fn_of Tryd.func15 rfl rfl rfl fun w0 hw => ?_
  obtain ⟨hw1, hw2, hw3, hw4, hw5⟩ := hw
  refine c_seq fun _ hK1 => ?_
  refine c_region ?_
  refine o_box rfl rfl rfl fun b1 => ?_
  refine o_step rfl (s_assign rfl) ?_
  refine o_nil ?_
  refine x_then (hK1 _ _ ?_)
  refine c_seq fun _ hK2 => ?_
  refine c_region ?_
  refine o_step rfl (s_field rfl rfl (by decide)) ?_
  refine o_step rfl (s_ld rfl (.own meA rfl)) ?_
  refine o_callP (spareC_fn aC cC d.atoms (by have := hz.at_; omega)) rfl rfl rfl (fun w st => (RdK.old0 hw1).out w st) (fun v5 hv5 => ?_)
  subst hv5
  refine o_step rfl (s_move rfl) ?_
  refine o_yes rfl rfl ?_
  refine o_step rfl (s_field rfl rfl (by decide)) ?_
  refine o_yes rfl rfl ?_
  refine o_step rfl (s_ld rfl (.own meA rfl)) ?_
  refine o_yes rfl rfl ?_
  refine o_callP (spareIntss_fn aR cR hs sps (by have := hz.nx; omega) (fun s hs => by have := hz.rw_ s hs; omega) hsl hsp) rfl rfl rfl (fun w st => ⟨(RdK.old0 hw2).out w st, fun s hs => (RdK.old0 (hw3 s hs)).out w st, fun s hs => (RdK.old0 (hw4 s hs)).out w st⟩) (fun v9 hv9 => ?_)
  subst hv9
  refine o_step rfl (s_pick_t rfl rfl) ?_
  refine o_step rfl (s_move rfl) ?_
  refine o_yes rfl rfl ?_
  refine o_step rfl (s_field rfl rfl (by decide)) ?_
  refine o_yes rfl rfl ?_
  refine o_step rfl (s_ld rfl (.own meA rfl)) ?_
  refine o_yes rfl rfl ?_
  refine o_callP (spareB_fn aE cE d.ends (by have := hz.en; omega)) rfl rfl rfl (fun w st => (RdK.old0 hw5).out w st) (fun v14 hv14 => ?_)
  subst hv14
  refine o_step rfl (s_pick_t rfl rfl) ?_
  refine o_step rfl (s_assign rfl) ?_
  refine o_nil ?_
  refine x_then (hK2 _ _ ?_)
  refine c_ret ?_
  refine ?_
  exact x_ret rfl (.tmp rfl (.nil)) (rfl)
set_option maxHeartbeats 1000000 in
theorem wideLaw_fn (d : Df) (aa : Option Addr) (ac : Nat) (na : Option Addr) (nc : Nat) (rows : List (Sl Int)) (ea : Option Addr) (ec : Nat) (hx : d.next = rows.map Sl.xs) : HL.Fn Tryd.prog 7 [.agg [.slice aa d.atoms.length ac, .slice na rows.length nc, .slice ea d.ends.length ec].toArray] (fun w => RdD d aa ac na nc rows ea ec w) [] (fun v _ => ∃ b, v = .bool b ∧ (b = false → Sml d rows)) := by
  refine fn_of Tryd.func7 rfl rfl rfl fun w0 hw => ?_
  have hsa := hw.at_.sl.le
  have hsn := hw.nx.sl
  have hbn := hsn.le
  have hse := hw.en.sl.le
  refine c_seq fun _ hK1 => ?_
  refine c_region ?_
  refine o_box rfl rfl rfl fun b1 => ?_
  refine o_step rfl (s_assign rfl) ?_
  refine o_nil ?_
  refine x_then (hK1 _ _ ?_)
  refine c_seq fun _ hK2 => ?_
  refine c_region ?_
  refine o_step rfl (s_field rfl rfl (by decide)) ?_
  refine o_step rfl (s_ld rfl (.own meA rfl)) ?_
  refine o_step rfl (s_len rfl) ?_
  refine o_step rfl (s_field rfl rfl (by decide)) ?_
  refine o_step rfl (s_ld rfl (.own meA rfl)) ?_
  refine o_step rfl (s_len rfl) ?_
  refine o_step rfl (step_cast (v' := .int .i64 ((rows.length + d.ends.length : Nat) : Int)) (s_add rfl rfl (by omega)) (congrArg _ (by omega))) ?_
  refine o_step rfl (s_field rfl rfl (by decide)) ?_
  refine o_step rfl (s_ld rfl (.own meA rfl)) ?_
  refine o_step rfl (s_len rfl) ?_
  refine o_step rfl (step_cast (v' := .int .i64 ((rows.length + d.ends.length + d.atoms.length : Nat) : Int)) (s_add rfl rfl (by omega)) (congrArg _ (by omega))) ?_
  refine o_step rfl (s_assign rfl) ?_
  refine o_nil ?_
  refine x_then (hK2 _ _ ?_)
  refine c_seq fun _ hK3 => ?_
  refine c_seq fun _ hK4 => ?_
  refine c_region ?_
  refine o_step rfl (s_assign rfl) ?_
  refine o_nil ?_
  refine x_then (hK4 _ _ ?_)
  refine c_block ?_
  refine c_loop2 (fun (i : Nat) (n : Nat) => i ≤ rows.length ∧ n ≤ 1000000000000000 ∧ (rows.length + d.ends.length + d.atoms.length ≤ n) ∧ ∀ j s, j < i → rows[j]? = some s → s.xs.length ≤ n) (fun (i : Nat) (n : Nat) => [(4, .int .i64 i), (3, .int .i64 n)]) [(1, _), (2, _)] (fun (i : Nat) (n : Nat) => [(b1, .cells [.slice aa d.atoms.length ac, .slice na rows.length nc, .slice ea d.ends.length ec].toArray 26 (0, 0))]) (fun (i : Nat) (n : Nat) => rows.length - i) 0 (rows.length + d.ends.length + d.atoms.length) ⟨by omega, by omega, by omega, fun j s hj _ => by omega⟩ sbA sbA hzB ?_
  rintro i n ⟨hi, hn, hb, hr⟩
  refine c_seq fun _ hK5 => ?_
  refine c_seq fun _ hK6 => ?_
  refine c_region ?_
  refine o_step rfl (s_move rfl) ?_
  refine o_step rfl (s_field rfl rfl (by decide)) ?_
  refine o_step rfl (s_ld rfl (.own meA rfl)) ?_
  refine o_step rfl (s_len rfl) ?_
  by_cases hlt : i < rows.length
  ·
   obtain ⟨s, hsi⟩ : ∃ x, rows[i]? = some x := ⟨_, List.getElem?_eq_getElem (by omega)⟩
   have hsm := List.mem_of_getElem? hsi
   have hsx := (hw.rw_ s hsm).sl.le
   refine o_step rfl (step_cast (v' := .bool true) (s_lss rfl rfl) (congrArg Value.bool (decide_eq_true (by omega)))) ?_
   refine o_step rfl (s_move rfl) ?_
   refine o_yes rfl rfl ?_
   refine o_step rfl (s_move rfl) ?_
   refine o_yes rfl rfl ?_
   by_cases hle : (n : Int) ≤ 16777216
   ·
    refine o_step rfl (step_cast (v' := .bool true) (s_leq rfl rfl) (congrArg Value.bool (decide_eq_true hle))) ?_
    refine o_step rfl (s_pick_t rfl rfl) ?_
    refine o_nil ?_
    refine x_then (hK6 _ _ ?_)
    refine c_true rfl ?_
    refine c_skip ?_
    refine x_then (hK5 _ _ ?_)
    refine c_seq fun _ hK7 => ?_
    refine c_block ?_
    refine c_region ?_
    refine o_step rfl (s_move rfl) ?_
    refine o_step rfl (s_field rfl rfl (by decide)) ?_
    refine o_step rfl (s_ld rfl (.own meA rfl)) ?_
    refine o_step rfl (s_move rfl) ?_
    refine o_step rfl (s_idx rfl rfl hsn (by omega)) ?_
    refine o_step rfl (s_ld rfl ((RdK.old0 hw.nx).ld i 0 hsi rfl (by decide) (by omega))) ?_
    refine o_step rfl (s_len rfl) ?_
    refine o_step rfl (step_cast (v' := .int .i64 ((n + s.xs.length : Nat) : Int)) (s_add rfl rfl (by omega)) (congrArg _ (by omega))) ?_
    refine o_step rfl (s_assign rfl) ?_
    refine o_nil ?_
    refine x_block ?_
    refine x_then (hK7 _ _ ?_)
    refine c_region ?_
    refine o_step rfl (s_move rfl) ?_
    refine o_step rfl (s_add rfl rfl (by omega)) ?_
    refine o_step rfl (s_assign rfl) ?_
    refine o_nil ?_
    exact x_then (x_inv (i + 1, n + s.xs.length) ⟨by omega, by dsimp only; omega, by dsimp only; omega, fun j s' hj hs' => by rcases Nat.lt_or_ge j i with h | h; (· have := hr j s' h hs'; dsimp only; omega); (· rw [show j = i by omega, hsi] at hs'; obtain rfl := Option.some.inj hs'; dsimp only; omega)⟩ (by first | omega | (dsimp only; omega)) sbA hzB)
   ·
    refine o_step rfl (step_cast (v' := .bool false) (s_leq rfl rfl) (congrArg Value.bool (decide_eq_false hle))) ?_
    refine o_step rfl (s_pick_t rfl rfl) ?_
    refine o_nil ?_
    refine x_then (hK6 _ _ ?_)
    refine c_false rfl ?_
    refine c_exit ?_
    refine x_then_exit ?_
    refine x_then_exit ?_
    refine x_block_exit ?_
    refine x_then (hK3 _ _ ?_)
    refine c_seq fun _ hK8 => ?_
    refine c_region ?_
    refine o_step rfl (s_move rfl) ?_
    by_cases hgt : (n : Int) > 16777216
    ·
     refine o_step rfl (step_cast (v' := .bool true) (s_gtr rfl rfl) (congrArg Value.bool (decide_eq_true hgt))) ?_
     refine o_step rfl (s_assign rfl) ?_
     refine o_nil ?_
     refine x_then (hK8 _ _ ?_)
     refine c_ret ?_
     refine ?_
     exact x_ret rfl (.tmp rfl (.nil)) (⟨true, rfl, fun h => by cases h⟩)
    ·
     refine o_step rfl (step_cast (v' := .bool false) (s_gtr rfl rfl) (congrArg Value.bool (decide_eq_false hgt))) ?_
     refine o_step rfl (s_assign rfl) ?_
     refine o_nil ?_
     refine x_then (hK8 _ _ ?_)
     refine c_ret ?_
     refine ?_
     exact x_ret rfl (.tmp rfl (.nil)) (⟨false, rfl, fun _ => absurd hle (by omega)⟩)
  ·
   refine o_step rfl (step_cast (v' := .bool false) (s_lss rfl rfl) (congrArg Value.bool (decide_eq_false (by omega)))) ?_
   refine o_step rfl (s_move rfl) ?_
   refine o_no rfl rfl rfl rfl ?_
   refine o_no rfl rfl rfl rfl ?_
   refine o_step rfl (s_pick_f rfl rfl) ?_
   refine o_nil ?_
   refine x_then (hK6 _ _ ?_)
   refine c_false rfl ?_
   refine c_exit ?_
   refine x_then_exit ?_
   refine x_then_exit ?_
   refine x_block_exit ?_
   refine x_then (hK3 _ _ ?_)
   refine c_seq fun _ hK9 => ?_
   refine c_region ?_
   refine o_step rfl (s_move rfl) ?_
   by_cases hgt : (n : Int) > 16777216
   ·
    refine o_step rfl (step_cast (v' := .bool true) (s_gtr rfl rfl) (congrArg Value.bool (decide_eq_true hgt))) ?_
    refine o_step rfl (s_assign rfl) ?_
    refine o_nil ?_
    refine x_then (hK9 _ _ ?_)
    refine c_ret ?_
    refine ?_
    exact x_ret rfl (.tmp rfl (.nil)) (⟨true, rfl, fun h => by cases h⟩)
   ·
    refine o_step rfl (step_cast (v' := .bool false) (s_gtr rfl rfl) (congrArg Value.bool (decide_eq_false hgt))) ?_
    refine o_step rfl (s_assign rfl) ?_
    refine o_nil ?_
    refine x_then (hK9 _ _ ?_)
    refine c_ret ?_
    refine ?_
    exact x_ret rfl (.tmp rfl (.nil)) (⟨false, rfl, fun _ => ⟨by omega, by omega, by omega, fun s hs => by obtain ⟨j, hj⟩ := List.getElem?_of_mem hs; have := hr j s (by have := (List.getElem?_eq_some_iff.1 hj).1; omega) hj; omega⟩⟩)
end Go.Proofs.YtmompllplidphaaDoor
