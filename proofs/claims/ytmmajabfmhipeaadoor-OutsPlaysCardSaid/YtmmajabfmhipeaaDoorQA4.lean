/- Part of the proofs over this seat: see the text that holds the theorem. Conditions: each theorem bears its own. -/
import Derived.Test.YtmmajabfmhipeaaDoorQA3
import Derived.Test.YtmmajabfmhipeaaDoorM2Z
namespace Go.Proofs.YtmmajabfmhipeaaDoor
open Go Go.HL Go.Proofs Go.Tab

def mk4 (k : Nat) : List UInt8 := [9, 0, UInt8.ofNat k, UInt8.ofNat (k / 256)]
theorem shr8 (k : Nat) : Value.int .i64 ((k : Int).fdiv (2 ^ (min (8 : Int).toNat IntKind.i64.bits))) = Value.int .i64 ((k / 256 : Nat) : Int) := by
  have e : min (8 : Int).toNat IntKind.i64.bits = 8 := by decide
  rw [e, Int.fdiv_eq_ediv_of_nonneg _ (by decide)]
  congr 1
/-- rows with marks behind each -/
inductive OwnW : List (Sl UInt8) → Hp → Prop
  | nil : OwnW [] []
  | cons {s : Sl UInt8} {ws : List (Sl UInt8)} {S R : Hp} (h : OwnS Eb 1 5 (.slice s.a (wide s.xs).length s.c) (wide s.xs) S) (hs : OwnW ws R) : OwnW (s :: ws) (S ++ R)
theorem OwnW.snoc {s : Sl UInt8} {ws : List (Sl UInt8)} {S R : Hp} (h : OwnW ws R) (h' : OwnS Eb 1 5 (.slice s.a (wide s.xs).length s.c) (wide s.xs) S) : OwnW (ws ++ [s]) (R ++ S) := by
  induction h with
  | nil => simpa using OwnW.cons h' .nil
  | cons h hs ih => simpa using OwnW.cons h ih
theorem OwnW.ownl {ws : List (Sl UInt8)} {S : Hp} (h : OwnW ws S) : OwnL Eb 1 5 ws (ws.map Sl.xs) S := by
  induction h with
  | nil => exact .nil
  | @cons s ws S R h hs ih =>
    have h1 := h.pre s.xs.length (by rw [wide_len]; omega)
    rw [wide_take] at h1
    exact .cons (s := s) h1 ih
theorem OwnW.rds {ws : List (Sl UInt8)} {S : Hp} (h : OwnW ws S) : ∀ s ∈ ws, RdS Eb (.slice s.a (wide s.xs).length s.c) (wide s.xs) S := by
  induction h with
  | nil => intro s hs; cases hs
  | @cons s ws S R h hs ih =>
    intro x hx
    rcases List.mem_cons.1 hx with rfl | hx
    · exact h.rds.mono HIn.appL
    · exact (ih x hx).mono HIn.appR
theorem OwnL.rds {sls : List (Sl UInt8)} {xss : List (List UInt8)} {S : Hp} (h : OwnL Eb 1 5 sls xss S) : ∀ (j : Nat) (s : Sl UInt8) (xs : List UInt8), sls[j]? = some s → xss[j]? = some xs → RdS Eb s.v xs S := by
  induction h with
  | nil => intro j s xs hs; simp at hs
  | @cons s xs sls xss S R h hs ih =>
    intro j t ys ht hy
    cases j with
    | zero => simp at ht hy; subst ht; subst hy; exact h.rds.mono HIn.appL
    | succ j => exact (ih j t ys (by simpa using ht) (by simpa using hy)).mono HIn.appR
theorem OwnL.rdm {sls : List (Sl UInt8)} {S : Hp} (h : OwnL Eb 1 5 sls (sls.map Sl.xs) S) : ∀ s ∈ sls, RdS Eb s.v s.xs S := fun s hs => by
  obtain ⟨j, hj, rfl⟩ := List.mem_iff_getElem.1 hs
  exact OwnL.rds h j _ _ (List.getElem?_eq_getElem hj) (by rw [List.getElem?_map, List.getElem?_eq_getElem hj]; rfl)
def WideR (sls : List (Sl UInt8)) (v : Value) (S' : Hp) : Prop := ∃ (a : Option Addr) (l ws : List (Sl UInt8)) (Sh Sf Sm : Hp), v = .slice a sls.length (sls.length + 64) ∧ S' = Sh ++ (Sf ++ Sm) ∧ l.length = sls.length + 64 ∧ OwnS Esl 1 40 (.slice a (sls.length + 64) (sls.length + 64)) l Sh ∧
  l.take sls.length = ws ∧ ws.map Sl.xs = sls.map Sl.xs ∧ OwnW ws Sf ∧ ∀ k m, sls.length ≤ k → l[k]? = some m → RdS Eb m.v m.xs Sm ∧ m.xs = mk4 k
/-- so many rows are made -/
structure WdI (sls l ws : List (Sl UInt8)) (j : Nat) (Sf Sm : Hp) : Prop where
  len : l.length = sls.length + 64
  tk : l.take (min j sls.length) = ws
  eq : ws.map Sl.xs = (sls.take j).map Sl.xs
  own : OwnW ws Sf
  mrk : ∀ k m, sls.length ≤ k → k < j → l[k]? = some m → RdS Eb m.v m.xs Sm ∧ m.xs = mk4 k
theorem WdI.zero {sls : List (Sl UInt8)} {z : Sl UInt8} : WdI sls (List.replicate (sls.length + 64) z) [] 0 [] [] := ⟨by simp, by simp, by simp, .nil, fun k m _ h => by omega⟩
theorem WdI.row {sls l ws : List (Sl UInt8)} {j : Nat} {Sf Sm S : Hp} (h : WdI sls l ws j Sf Sm) (hj : j < sls.length) {a : Option Addr} (ho : OwnS Eb 1 5 (.slice a (wide (row0 sls j).xs).length ((row0 sls j).xs.length + 64)) (wide (row0 sls j).xs) S) :
    WdI sls (l.set j ⟨a, (row0 sls j).xs.length + 64, (row0 sls j).xs⟩) (ws ++ [⟨a, (row0 sls j).xs.length + 64, (row0 sls j).xs⟩]) (j + 1) (Sf ++ S) Sm := by
  refine ⟨by rw [List.length_set]; exact h.len, ?_, ?_, h.own.snoc ho, fun k m h1 h2 => by omega⟩
  · have e := h.tk
    rw [Nat.min_eq_left (by omega)] at e ⊢
    rw [List.take_add_one, List.getElem?_set_self (by have := h.len; omega), List.take_set_of_le (Nat.le_refl _), e]
    rfl
  · rw [List.map_append, h.eq, List.take_add_one, row0_get hj, List.map_append]
    rfl
theorem WdI.mark {sls l ws : List (Sl UInt8)} {j : Nat} {Sf Sm S : Hp} (h : WdI sls l ws j Sf Sm) (hj : ¬ j < sls.length) {a : Option Addr} {c : Nat} (ho : OwnS Eb 1 5 (.slice a (mk4 j).length c) (mk4 j) S) :
    WdI sls (l.set j ⟨a, c, mk4 j⟩) ws (j + 1) Sf (S ++ Sm) := by
  refine ⟨by rw [List.length_set]; exact h.len, ?_, ?_, h.own, fun k m h1 h2 hm => ?_⟩
  · have e := h.tk
    rw [Nat.min_eq_right (by omega)] at e ⊢
    rw [List.take_set_of_le (by omega), e]
  · rw [h.eq, List.take_of_length_le (by omega), List.take_of_length_le (by omega)]
  · by_cases hk : k = j
    · subst hk
      obtain rfl : (⟨a, c, mk4 k⟩ : Sl UInt8) = m := by
        have hl := (List.getElem?_eq_some_iff.1 hm).1
        rw [List.length_set] at hl
        rw [List.getElem?_set_self hl] at hm
        exact Option.some.inj hm
      exact ⟨ho.rds.mono HIn.appL, rfl⟩
    · rw [List.getElem?_set_ne (Ne.symm hk)] at hm
      obtain ⟨g1, g2⟩ := h.mrk k m h1 (by omega) hm
      exact ⟨g1.mono HIn.appR, g2⟩
set_option maxHeartbeats 1000000 in
theorem wideRows_fn (a : Option Addr) (c : Nat) (sls : List (Sl UInt8)) (hn : sls.length ≤ 2147483647) (hsn : ∀ s ∈ sls, s.xs.length ≤ 2147483647) : HL.Fn Tryd.prog 18 [.slice a sls.length c] (fun w => Rd Esl w (.slice a sls.length c) sls ∧ ∀ s ∈ sls, Rd Eb w s.v s.xs) [] (WideR sls) := by
  refine fn_of Tryd.func18 rfl rfl rfl fun w0 hw => ?_
  obtain ⟨h1, h2⟩ := hw
  have hs1 := h1.sl
  refine c_seq fun _ hK1 => ?_
  refine c_region ?_
  refine o_step rfl (s_assign rfl) ?_
  refine o_nil ?_
  refine x_then (hK1 _ _ ?_)
  refine c_seq fun _ hK2 => ?_
  refine c_region ?_
  refine o_step rfl (s_move rfl) ?_
  refine o_step rfl (s_len rfl) ?_
  refine o_step rfl (s_add rfl rfl (by omega)) ?_
  refine o_make (E := Esl) (zx := (⟨none, 0, []⟩ : Sl UInt8)) (n := sls.length + 64) rfl rfl rfl (by omega) (by omega) rfl fun b8 S8 hS8 => ?_
  refine o_step rfl (s_assign rfl) ?_
  refine o_nil ?_
  refine x_then (hK2 _ _ ?_)
  refine c_seq fun _ hK3 => ?_
  refine c_seq fun _ hK4 => ?_
  refine c_region ?_
  refine o_step rfl (s_assign rfl) ?_
  refine o_nil ?_
  refine x_then (hK4 _ _ ?_)
  refine c_block ?_
  refine c_loop6 (fun (j : Nat) (l : List (Sl UInt8)) (ws : List (Sl UInt8)) (Sh : Hp) (Sf : Hp) (Sm : Hp) => j ≤ sls.length + 64 ∧ WdI sls l ws j Sf Sm ∧ OwnS Esl 1 40 (.slice (some ⟨b8, 0, none⟩) (sls.length + 64) (sls.length + 64)) l Sh) (fun (j : Nat) (l : List (Sl UInt8)) (ws : List (Sl UInt8)) (Sh : Hp) (Sf : Hp) (Sm : Hp) => [(4, .int .i64 j)]) [(0, _), (2, _), (3, _)] (fun (j : Nat) (l : List (Sl UInt8)) (ws : List (Sl UInt8)) (Sh : Hp) (Sf : Hp) (Sm : Hp) => Sh ++ (Sf ++ Sm)) (fun (j : Nat) (l : List (Sl UInt8)) (ws : List (Sl UInt8)) (Sh : Hp) (Sf : Hp) (Sm : Hp) => sls.length + 64 - j) 0 _ [] S8 [] [] ⟨Nat.zero_le _, WdI.zero (z := (⟨none, 0, []⟩ : Sl UInt8)), hS8⟩ sbA sbA (by simp only [List.append_nil]; exact HSub.refl _) ?_
  rintro j l ws Sh Sf Sm ⟨hj, hI, hS⟩
  have hsl := hS.sl
  have hll := hI.len
  rw [hll] at hsl
  refine c_seq fun _ hK5 => ?_
  refine c_seq fun _ hK6 => ?_
  refine c_region ?_
  refine o_step rfl (s_move rfl) ?_
  refine o_step rfl (s_move rfl) ?_
  refine o_step rfl (s_len rfl) ?_
  refine o_step rfl (s_lss rfl rfl) ?_
  refine o_nil ?_
  refine x_then (hK6 _ _ ?_)
  refine c_if rfl (fun hlt => ?_) (fun hlt => ?_)
  ·
   refine c_skip ?_
   refine x_then (hK5 _ _ ?_)
   refine c_seq fun _ hK7 => ?_
   refine c_block ?_
   refine c_seq fun _ hK8 => ?_
   refine c_region ?_
   refine o_step rfl (s_move rfl) ?_
   refine o_step rfl (s_move rfl) ?_
   refine o_step rfl (s_len rfl) ?_
   by_cases hjl : j < sls.length
   ·
    have hmem := row0_mem hjl
    have hrn := hsn _ hmem
    refine o_step rfl (step_cast (v' := .bool true) (s_lss rfl rfl) (by rw [decide_eq_true (by omega)])) ?_
    refine o_nil ?_
    refine x_then (hK8 _ _ ?_)
    refine c_true rfl ?_
    refine c_region ?_
    refine o_step rfl (s_move rfl) ?_
    refine o_step rfl (s_move rfl) ?_
    refine o_step rfl (s_move rfl) ?_
    refine o_step rfl (s_move rfl) ?_
    refine o_step rfl (s_idx rfl rfl hs1 (by omega)) ?_
    refine o_step rfl (s_ld rfl ((RdK.old0 h1).ld j 0 (row0_get hjl) rfl (by decide) (by omega))) ?_
    refine o_call (wideBytes_fn (row0 sls j).a (row0 sls j).c (row0 sls j).xs hrn) rfl rfl rfl (by exact .nil) (fun w st => (RdK.old0 (h2 _ hmem)).out w st) (fun v25 S25 ⟨a25, hv25, hO25⟩ => ?_)
    subst hv25
    refine o_step rfl (s_idx rfl rfl hsl (by omega)) ?_
    refine o_stS1 j (⟨a25, (row0 sls j).xs.length + 64, (row0 sls j).xs⟩ : Sl UInt8) hS pkA rfl rfl rfl (by omega) (by rw [Int.toNat_natCast, Nat.mul_one]) fun S' hS' => ?_
    refine o_nil ?_
    refine x_block ?_
    refine x_then (hK7 _ _ ?_)
    refine c_region ?_
    refine o_step rfl (s_move rfl) ?_
    refine o_step rfl (s_add rfl rfl (by omega)) ?_
    refine o_step rfl (s_assign rfl) ?_
    refine o_nil ?_
    exact x_then (x_inv (j + 1, _, _, S', Sf ++ S25, Sm) ⟨by dsimp only; omega, hI.row hjl hO25, hS'⟩ (by first | omega | (dsimp only; omega)) sbA (by simp only [List.append_assoc]; exact hzB))
   ·
    refine o_step rfl (step_cast (v' := .bool false) (s_lss rfl rfl) (by rw [decide_eq_false (by omega)])) ?_
    refine o_nil ?_
    refine x_then (hK8 _ _ ?_)
    refine c_false rfl ?_
    refine c_region ?_
    refine o_step rfl (s_move rfl) ?_
    refine o_step rfl (s_move rfl) ?_
    refine o_step rfl (s_move rfl) ?_
    refine o_step rfl (s_convB (j := j) rfl) ?_
    refine o_step rfl (s_move rfl) ?_
    refine o_step rfl (step_cast (s_shr rfl rfl (by decide)) (shr8 j)) ?_
    refine o_step rfl (s_convB (j := j / 256) rfl) ?_
    refine o_bs (E := Eb) (xs := mk4 j) (vs := [_, _, _, _]) rfl rfl rfl rfl rfl (by decide) (by decide) fun b34 S34 hS34 => ?_
    refine o_step rfl (s_idx rfl rfl hsl (by omega)) ?_
    refine o_stS1 j (⟨some ⟨b34, 0, none⟩, 4, mk4 j⟩ : Sl UInt8) hS pkA rfl rfl rfl (by omega) (by rw [Int.toNat_natCast, Nat.mul_one]) fun S' hS' => ?_
    refine o_nil ?_
    refine x_block ?_
    refine x_then (hK7 _ _ ?_)
    refine c_region ?_
    refine o_step rfl (s_move rfl) ?_
    refine o_step rfl (s_add rfl rfl (by omega)) ?_
    refine o_step rfl (s_assign rfl) ?_
    refine o_nil ?_
    exact x_then (x_inv (j + 1, _, _, S', Sf, S34 ++ Sm) ⟨by dsimp only; omega, hI.mark hjl hS34, hS'⟩ (by first | omega | (dsimp only; omega)) sbA (by simp only [List.append_assoc]; exact hzB))
  ·
   obtain rfl : j = sls.length + 64 := by omega
   have hc1 := hI.tk
   rw [Nat.min_eq_right (by omega)] at hc1
   have hc2 := hI.eq
   rw [List.take_of_length_le (by omega)] at hc2
   refine c_exit ?_
   refine x_then_exit ?_
   refine x_then_exit ?_
   refine x_block_exit ?_
   refine x_then (hK3 _ _ ?_)
   refine c_seq fun _ hK9 => ?_
   refine c_region ?_
   refine o_step rfl (s_move rfl) ?_
   refine o_step rfl (s_move rfl) ?_
   refine o_step rfl (s_len rfl) ?_
   refine o_step rfl (s_slice_hi rfl rfl (by omega)) ?_
   refine o_step rfl (s_assign rfl) ?_
   refine o_nil ?_
   refine x_then (hK9 _ _ ?_)
   refine c_ret ?_
   refine ?_
   exact x_ret rfl (.tmp rfl (.nil)) (⟨some ⟨b8, 0, none⟩, l, ws, Sh, Sf, Sm, rfl, rfl, hI.len, hS, hc1, hc2, hI.own, fun k m h1 h2 => hI.mrk k m h1 (by have := (List.getElem?_eq_some_iff.1 h2).1; have := hI.len; omega) h2⟩)
theorem IsSl.low {a : Option Addr} {n m c : Nat} (h : IsSl (.slice a n c) n) (hm : m ≤ n) : IsSl (.slice a m c) m := by
  obtain ⟨⟨a', c', hv, hn, h0, hs⟩, hle⟩ := h
  simp only [Value.slice.injEq] at hv
  obtain ⟨rfl, _, rfl⟩ := hv
  exact ⟨⟨a, c, rfl, by omega, h0, fun A hA hz => hs A hA (by omega)⟩, by omega⟩
theorem spareX_fn (a : Option Addr) (c : Nat) (xs : List UInt8) (hn : xs.length ≤ 2147483647) : HL.Fn Tryd.prog 39 [.slice a xs.length c] (fun w => Rd Eb w (.slice a (wide xs).length c) (wide xs)) [] (fun v _ => v = .bool true) := spareBytes_fn a c xs hn
theorem spareRows_fn (a : Option Addr) (n : Nat) (l : List (Sl UInt8)) (hn : n ≤ 2147483647) (hll : l.length = n + 64) (hsn : ∀ s ∈ l.take n, s.xs.length ≤ 2147483647) : HL.Fn Tryd.prog 28 [.slice a n (n + 64)] (fun w => Rd Esl w (.slice a (n + 64) (n + 64)) l ∧ (∀ s ∈ l.take n, Rd Eb w (.slice s.a (wide s.xs).length s.c) (wide s.xs)) ∧ ∀ k m, n ≤ k → l[k]? = some m → Rd Eb w m.v m.xs ∧ m.xs = mk4 k) [] (fun v _ => v = .bool true) := by
  refine fn_of Tryd.func28 rfl rfl rfl fun w0 hw => ?_
  obtain ⟨h1, h2, h3⟩ := hw
  have hs1 := h1.sl
  rw [hll] at hs1
  have hs2 : IsSl (.slice a n (n + 64)) n := IsSl.low hs1 (by omega)
  refine c_seq fun _ hK1 => ?_
  refine c_region ?_
  refine o_step rfl (s_assign rfl) ?_
  refine o_nil ?_
  refine x_then (hK1 _ _ ?_)
  refine c_seq fun _ hK2 => ?_
  refine c_region ?_
  refine o_step rfl (s_move rfl) ?_
  refine o_step rfl (s_move rfl) ?_
  refine o_step rfl (s_len rfl) ?_
  refine o_step rfl (s_add rfl rfl (by omega)) ?_
  refine o_step rfl (s_slice_hi rfl rfl (by omega)) ?_
  rw [show ((n : Int) + 64).toNat = n + 64 from by omega]
  refine o_step rfl (s_assign rfl) ?_
  refine o_nil ?_
  refine x_then (hK2 _ _ ?_)
  refine c_seq fun _ hK3 => ?_
  refine c_seq fun _ hK4 => ?_
  refine c_region ?_
  refine o_step rfl (s_move rfl) ?_
  refine o_step rfl (s_len rfl) ?_
  refine o_step rfl (s_assign rfl) ?_
  refine o_nil ?_
  refine x_then (hK4 _ _ ?_)
  refine c_block ?_
  -- not carried: 2
  refine c_loopB (fun (j : Nat) => n ≤ j ∧ j ≤ n + 64) (fun (j : Nat) => [(4, .int .i64 j)]) [(0, _), (3, _)] (fun (j : Nat) => _) (fun (j : Nat) => n + 64 - j) n ⟨by omega, by omega⟩ sbA sbA hzB ?_
  rintro j ⟨hj1, hj2⟩
  refine c_seq fun _ hK5 => ?_
  refine c_seq fun _ hK6 => ?_
  refine c_region ?_
  refine o_step rfl (s_move rfl) ?_
  refine o_step rfl (s_move rfl) ?_
  refine o_step rfl (s_len rfl) ?_
  refine o_step rfl (s_lss rfl rfl) ?_
  refine o_nil ?_
  refine x_then (hK6 _ _ ?_)
  refine c_if rfl (fun hlt => ?_) (fun hlt => ?_)
  ·
   obtain ⟨m, hm⟩ : ∃ m, l[j]? = some m := ⟨_, List.getElem?_eq_getElem (by omega)⟩
   obtain ⟨hmr, hmx⟩ := h3 j m hj1 hm
   refine c_skip ?_
   refine x_then (hK5 _ _ ?_)
   refine c_seq fun _ hK7 => ?_
   refine c_block ?_
   refine c_seq fun _ hK8 => ?_
   refine c_region ?_
   refine o_step rfl (s_move rfl) ?_
   refine o_step rfl (s_move rfl) ?_
   refine o_step rfl (s_idx rfl rfl hs1 (by omega)) ?_
   refine o_step rfl (s_ld rfl ((RdK.old0 h1).ld j 0 hm rfl (by decide) (by omega))) ?_
   refine o_step rfl (s_move rfl) ?_
   refine o_step rfl (s_convB (j := j) rfl) ?_
   refine o_step rfl (s_move rfl) ?_
   refine o_step rfl (step_cast (s_shr rfl rfl (by decide)) (shr8 j)) ?_
   refine o_step rfl (s_convB (j := j / 256) rfl) ?_
   refine o_bs (E := Eb) (xs := mk4 j) (vs := [_, _, _, _]) rfl rfl rfl rfl rfl (by decide) (by decide) fun b28 S28 hS28 => ?_
   refine o_callP (eqBytes_fn m.a (some ⟨b28, 0, none⟩) m.c 4 m.xs (mk4 j)) rfl rfl rfl (fun w st => ⟨(RdK.old0 hmr).out w st, (hS28.rdk hiA).out w st⟩) (fun v29 hv29 => ?_)
   rw [decide_eq_true hmx] at hv29
   subst hv29
   refine o_step rfl (s_not rfl) ?_
   refine o_nil ?_
   refine x_then (hK8 _ _ ?_)
   refine c_false rfl ?_
   refine c_skip ?_
   refine x_block ?_
   refine x_then (hK7 _ _ ?_)
   refine c_region ?_
   refine o_step rfl (s_move rfl) ?_
   refine o_step rfl (s_add rfl rfl (by omega)) ?_
   refine o_step rfl (s_assign rfl) ?_
   refine o_nil ?_
   exact x_then (x_inv (j + 1) ⟨by omega, by omega⟩ (by first | omega | (dsimp only; omega)) sbA hzB)
  ·
   refine c_exit ?_
   refine x_then_exit ?_
   refine x_then_exit ?_
   refine x_block_exit ?_
   refine x_then (hK3 _ _ ?_)
   refine c_seq fun _ hK9 => ?_
   refine c_seq fun _ hK10 => ?_
   refine c_region ?_
   refine o_step rfl (s_assign rfl) ?_
   refine o_nil ?_
   refine x_then (hK10 _ _ ?_)
   refine c_block ?_
   refine c_loopB (fun (j : Nat) => j ≤ n) (fun (j : Nat) => [(5, .int .i64 j)]) [(0, _)] (fun (j : Nat) => _) (fun (j : Nat) => n - j) 0 (Nat.zero_le _) sbA sbA hzB ?_
   rintro j hj
   refine c_seq fun _ hK11 => ?_
   refine c_seq fun _ hK12 => ?_
   refine c_region ?_
   refine o_step rfl (s_move rfl) ?_
   refine o_step rfl (s_move rfl) ?_
   refine o_step rfl (s_len rfl) ?_
   refine o_step rfl (s_lss rfl rfl) ?_
   refine o_nil ?_
   refine x_then (hK12 _ _ ?_)
   refine c_if rfl (fun hlt => ?_) (fun hlt => ?_)
   ·
    obtain ⟨m, hm⟩ : ∃ m, l[j]? = some m := ⟨_, List.getElem?_eq_getElem (by omega)⟩
    have hmt : m ∈ l.take n := List.mem_of_getElem? (i := j) (by rw [List.getElem?_take_of_lt (by omega)]; exact hm)
    refine c_skip ?_
    refine x_then (hK11 _ _ ?_)
    refine c_seq fun _ hK13 => ?_
    refine c_block ?_
    refine c_seq fun _ hK14 => ?_
    refine c_region ?_
    refine o_step rfl (s_move rfl) ?_
    refine o_step rfl (s_move rfl) ?_
    refine o_step rfl (s_idx rfl rfl hs2 (by omega)) ?_
    refine o_step rfl (s_ld rfl ((RdK.old0 h1).ld j 0 hm rfl (by decide) (by simp only [soff]; omega))) ?_
    refine o_callP (spareX_fn m.a m.c m.xs (hsn _ hmt)) rfl rfl rfl (fun w st => (RdK.old0 (h2 _ hmt)).out w st) (fun v41 hv41 => ?_)
    subst hv41
    refine o_step rfl (s_not rfl) ?_
    refine o_nil ?_
    refine x_then (hK14 _ _ ?_)
    refine c_false rfl ?_
    refine c_skip ?_
    refine x_block ?_
    refine x_then (hK13 _ _ ?_)
    refine c_region ?_
    refine o_step rfl (s_move rfl) ?_
    refine o_step rfl (s_add rfl rfl (by omega)) ?_
    refine o_step rfl (s_assign rfl) ?_
    refine o_nil ?_
    exact x_then (x_inv (j + 1) (by omega) (by first | omega | (dsimp only; omega)) sbA hzB)
   ·
    refine c_exit ?_
    refine x_then_exit ?_
    refine x_then_exit ?_
    refine x_block_exit ?_
    refine x_then (hK9 _ _ ?_)
    refine c_seq fun _ hK15 => ?_
    refine c_region ?_
    refine o_step rfl (s_assign rfl) ?_
    refine o_nil ?_
    refine x_then (hK15 _ _ ?_)
    refine c_ret ?_
    refine ?_
    exact x_ret rfl (.tmp rfl (.nil)) (rfl)
theorem write_fn {bo bs : Nat} {lim fail serr : Int} {s : OS} {S : Hp} (hst : StG bo bs lim fail serr s S) (a : Option Addr) (c : Nat) (sls : List (Sl UInt8)) (Sr : Hp) (hsr : IsSl (.slice a sls.length c) sls.length) (hr : RdS Esl (.slice a sls.length c) sls Sr) (hri : ∀ s ∈ sls, RdS Eb s.v s.xs Sr)
    (hle : s.said.length ≤ 1099511627776) (hkl : (s.kept ++ (sls.map Sl.xs).flatten).length ≤ 4294967296) (hcn : 0 ≤ s.cnt ∧ s.cnt ≤ 1099511627776) : HL.Fn Tryd.prog 21 [.pointer (some ⟨bo, 0, none⟩), .slice a sls.length c] (fun _ => True) (S ++ Sr)
      (fun v S' => v = .int .i64 (writeE lim fail serr s (sls.map Sl.xs).flatten) ∧ ∃ S1, S' = S1 ++ Sr ∧ StG bo bs lim fail serr (writeS lim fail serr s (sls.map Sl.xs).flatten) S1) := by
  obtain ⟨S1, S2, rfl, hO, hS⟩ := hst
  obtain ⟨kept, err, cnt, said⟩ := s
  rcases hO with @⟨ka, kc, Sk, hk⟩
  rcases hS with @⟨sa, ga, sc, gc, sl, gl, gx, So, Si, Sg, Gc, hm, hO', hin, hg, hgl, hG, hgb⟩
  simp only at hm hk hle hkl hcn
  subst hm
  rw [← catK_all] at hkl
  simp only [List.append_assoc, List.cons_append]
  exact write_raw bo bs lim cnt fail serr kept ka kc sl gl sa ga sc gc Sk So Si Sg hk hO' hin hg hgl (by simpa using hle) hcn gx Gc hG hgb err a c sls Sr hsr hr hri hkl
theorem flush_fn {bo bs : Nat} {lim fail serr : Int} {s : OS} {S : Hp} (hst : StG bo bs lim fail serr s S) (hle : s.said.length ≤ 1099511627776) (hkl : s.kept.length ≤ 4294967296) (hcn : 0 ≤ s.cnt ∧ s.cnt ≤ 1099511627776) :
    HL.Fn Tryd.prog 19 [.pointer (some ⟨bo, 0, none⟩)] (fun _ => True) S (fun v S' => v = .int .i64 (flushE fail serr s) ∧ StG bo bs lim fail serr (flushS fail serr s) S') := by
  obtain ⟨S1, S2, rfl, hO, hS⟩ := hst
  obtain ⟨kept, err, cnt, said⟩ := s
  rcases hO with @⟨ka, kc, Sk, hk⟩
  rcases hS with @⟨sa, ga, sc, gc, sl, gl, gx, So, Si, Sg, Gc, hm, hO', hin, hg, hgl, hG, hgb⟩
  simp only at hm hk hle hkl hcn
  subst hm
  exact flush_raw bo bs lim cnt fail serr kept ka kc sl gl sa ga sc gc Sk So Si Sg hk hO' hin hg hgl (by simpa using hle) err hkl hcn gx Gc hG hgb
theorem rWrite_fn {bo bs : Nat} {lim fail serr : Int} {s : OS} {S : Hp} (hst : StR bo bs lim fail serr s S) (a : Option Addr) (c : Nat) (sls : List (Sl UInt8))
    (hle : s.said.length ≤ 1099511627776) (hkl : (s.kept ++ (sls.map Sl.xs).flatten).length ≤ 4294967296) (hcn : 0 ≤ s.cnt ∧ s.cnt ≤ 1099511627776) : HL.Fn Tryd.prog 22 [.pointer (some ⟨bo, 0, none⟩), .slice a sls.length c]
      (fun w => (Rd Esl w (.slice a sls.length c) sls ∧ Apart (keys S) (.slice a sls.length c)) ∧ ∀ s ∈ sls, Rd Eb w s.v s.xs ∧ Apart (keys S) s.v) S
      (fun v S' => v = .int .i64 (writeE lim fail serr s (sls.map Sl.xs).flatten) ∧ StR bo bs lim fail serr (writeS lim fail serr s (sls.map Sl.xs).flatten) S') := by
  obtain ⟨S1, S2, rfl, hO, hS⟩ := hst
  obtain ⟨kept, err, cnt, said⟩ := s
  rcases hO with @⟨ka, kc, Sk, hk⟩
  rcases hS with @⟨sa, ga, sc, gc, sl, gl, gx, So, Si, Sg, Gc, hm, hO', hin, hg, hgl, hG, hgb⟩
  simp only at hm hk hle hkl hcn
  subst hm
  rw [← catK_all] at hkl
  exact rWrite_raw bo bs lim cnt fail serr kept ka kc sl gl sa ga sc gc Sk So Si Sg hk hO' hin hg hgl (by simpa using hle) hcn gx Gc hG hgb err a c sls hkl
theorem rFlush_fn {bo bs : Nat} {lim fail serr : Int} {s : OS} {S : Hp} (hst : StR bo bs lim fail serr s S) (hle : s.said.length ≤ 1099511627776) (hkl : s.kept.length ≤ 4294967296) (hcn : 0 ≤ s.cnt ∧ s.cnt ≤ 1099511627776) :
    HL.Fn Tryd.prog 20 [.pointer (some ⟨bo, 0, none⟩)] (fun _ => True) S (fun v S' => v = .int .i64 (flushE fail serr s) ∧ StR bo bs lim fail serr (flushS fail serr s) S') := by
  obtain ⟨S1, S2, rfl, hO, hS⟩ := hst
  obtain ⟨kept, err, cnt, said⟩ := s
  rcases hO with @⟨ka, kc, Sk, hk⟩
  rcases hS with @⟨sa, ga, sc, gc, sl, gl, gx, So, Si, Sg, Gc, hm, hO', hin, hg, hgl, hG, hgb⟩
  simp only at hm hk hle hkl hcn
  subst hm
  exact rFlush_raw bo bs lim cnt fail serr kept ka kc sl gl sa ga sc gc Sk So Si Sg hk hO' hin hg hgl (by simpa using hle) err hkl hcn gx Gc hG hgb
theorem outNew_pos (lim : Int) (fn : Go.Fn) (us cs : Array Value) (h : 0 ≤ lim) : HL.Fn Tryd.prog 14 [.int .i64 lim, .func fn us cs] (fun _ => True) [] (fun v S' => ∃ bo, v = .tuple #[.pointer (some ⟨bo, 0, none⟩), .int .i64 0] ∧ S' = [(bo, .cells [.int .i64 lim, .func fn us cs, .slice none 0 0, .int .i64 0, .int .i64 0].toArray 122 (0, 0))]) :=
  HL.Fn.weak (outNew_fn lim fn us cs) fun v S' hv => by
    rcases hv with ⟨hn, _⟩ | ⟨_, h⟩
    · omega
    · exact h
theorem outNew_neg (lim : Int) (fn : Go.Fn) (us cs : Array Value) (h : lim < 0) : HL.Fn Tryd.prog 14 [.int .i64 lim, .func fn us cs] (fun _ => True) [] (fun v _ => v = .tuple #[.pointer none, .int .i64 1]) :=
  HL.Fn.weak (outNew_fn lim fn us cs) fun v S' hv => by
    rcases hv with ⟨_, h⟩ | ⟨hn, _⟩
    · exact h
    · omega
theorem rNew_pos (lim : Int) (bs : Nat) (h : 0 ≤ lim) : HL.Fn Tryd.prog 16 [.int .i64 lim, .pointer (some ⟨bs, 0, none⟩)] (fun _ => True) [] (fun v S' => ∃ bo, v = .tuple #[.pointer (some ⟨bo, 0, none⟩), .int .i64 0] ∧ S' = [(bo, .cells [.bool true, .int .i64 lim, .pointer (some ⟨bs, 0, none⟩), .slice none 0 0, .int .i64 0, .int .i64 0].toArray 125 (0, 0))]) :=
  HL.Fn.weak (rNew_fn lim bs) fun v S' hv => by
    rcases hv with ⟨hn, _⟩ | ⟨_, h⟩
    · omega
    · exact h
theorem rNew_neg (lim : Int) (bs : Nat) (h : lim < 0) : HL.Fn Tryd.prog 16 [.int .i64 lim, .pointer (some ⟨bs, 0, none⟩)] (fun _ => True) [] (fun v _ => v = .tuple #[.pointer none, .int .i64 1]) :=
  HL.Fn.weak (rNew_fn lim bs) fun v S' hv => by
    rcases hv with ⟨_, h⟩ | ⟨hn, _⟩
    · exact h
    · omega
theorem eqRows_true (a a2 : Option Addr) (c c2 : Nat) (xs ys : List (Sl UInt8)) (h : xs.map Sl.xs = ys.map Sl.xs) : HL.Fn Tryd.prog 27 [.slice a xs.length c, .slice a2 ys.length c2] (fun w => (Rd Esl w (.slice a xs.length c) xs ∧ ∀ s ∈ xs, Rd Eb w s.v s.xs) ∧ (Rd Esl w (.slice a2 ys.length c2) ys ∧ ∀ s ∈ ys, Rd Eb w s.v s.xs)) [] (fun v _ => v = .bool true) :=
  HL.Fn.weak (eqRows_fn a a2 c c2 xs ys) fun v S' hv => by rw [hv, decide_eq_true h]
theorem works_fn  : HL.Fn Tryd.prog 17 [] (fun _ => True) [] (fun v _ => v = .bool true) := by
  refine fn_of Tryd.func17 rfl rfl rfl fun w0 hw => ?_
  refine c_seq fun _ hK1 => ?_
  refine c_region ?_
  refine o_step rfl (s_assign rfl) ?_
  refine o_nil ?_
  refine x_then (hK1 _ _ ?_)
  refine c_seq fun _ hK2 => ?_
  refine c_region ?_
  refine o_step rfl (s_build (cs := [_, _, _, _, _, _, _]) (vs := []) rfl rfl (.nil)) ?_
  refine o_box rfl rfl rfl fun b8 => ?_
  refine o_step rfl (s_assign rfl) ?_
  refine o_nil ?_
  refine x_then (hK2 _ _ ?_)
  refine c_seq fun _ hK3 => ?_
  refine c_region ?_
  refine o_step rfl (s_move rfl) ?_
  refine o_step rfl (s_func (us := [_]) (vs := []) rfl rfl) ?_
  refine o_call (outNew_fn 3 (.func 15) _ _) rfl rfl rfl (by exact .nil) (fun _ _ => trivial) (fun v12 S12 hv12 => ?_)
  rcases hv12 with ⟨hn, _⟩ | ⟨_, bo, hv12, hS12⟩
  ·
   exact absurd hn (by decide)
  subst hv12
  subst hS12
  have hst := stG_new (bo := bo) (bs := b8) (lim := 3) (fail := 0) (serr := 0)
  obtain ⟨S0, hS0⟩ : ∃ S, S = newH bo b8 3 0 0 := ⟨_, rfl⟩
  rw [← hS0] at hst
  refine o_sk (H' := S0) (by rw [hS0]; exact HSub.refl _) ?_
  refine o_step rfl (s_move rfl) ?_
  refine o_step rfl (s_extract rfl rfl) ?_
  refine o_step rfl (s_extract rfl rfl) ?_
  refine o_step rfl (s_assign rfl) ?_
  refine o_step rfl (s_assign rfl) ?_
  refine o_nil ?_
  refine x_then (hK3 _ _ ?_)
  refine c_seq fun _ hK4 => ?_
  refine c_seq fun _ hK5 => ?_
  refine c_region ?_
  refine o_step rfl (s_move rfl) ?_
  refine o_step rfl (s_neq_f rfl rfl rfl) ?_
  refine o_step rfl (s_move rfl) ?_
  refine o_yes rfl rfl ?_
  refine o_step rfl (s_move rfl) ?_
  refine o_yes rfl rfl ?_
  refine o_step rfl (step_cast (v' := .bool false) (s_eql_nilp rfl rfl) rfl) ?_
  refine o_step rfl (s_pick_f rfl rfl) ?_
  refine o_nil ?_
  refine x_then (hK5 _ _ ?_)
  refine c_false rfl ?_
  refine c_skip ?_
  refine x_then (hK4 _ _ ?_)
  refine c_seq fun _ hK6 => ?_
  refine c_region ?_
  refine o_step rfl (s_move rfl) ?_
  refine o_bs (E := Eb) (xs := [97, 98]) (vs := [_, _]) rfl rfl rfl rfl rfl (by decide) (by decide) fun b22 S22 hS22 => ?_
  refine o_conv_same rfl hS22 pkA rfl fun S23 hS23 => ?_
  refine o_bs (E := Esl) (xs := [(⟨some ⟨b22, 0, none⟩, 2, [97, 98]⟩ : Sl UInt8)]) (vs := [_]) rfl rfl rfl rfl rfl (by decide) (by decide) fun b24 S24 hS24 => ?_
  refine o_call (write_fn hst (some ⟨b24, 0, none⟩) 1 [(⟨some ⟨b22, 0, none⟩, 2, [97, 98]⟩ : Sl UInt8)] (S24 ++ S23) hS24.sl (hS24.rds.mono HIn.appL) (rows1 (x := ⟨some ⟨b22, 0, none⟩, 2, [97, 98]⟩) hS23.rds) (by decide) (show 2 ≤ 4294967296 by decide) (by decide)) rfl rfl rfl ((Pick.takeA pkA (Pick.takeA pkA pkA))) (fun _ _ => trivial) (fun v25 S25x ⟨hv25, S25, hSe25, hst1⟩ => ?_)
  subst hv25
  subst hSe25
  refine o_sk (H' := S25) hzB ?_
  have e1 : writeS 3 0 0 ⟨[], 0, 0, []⟩ (([(⟨some ⟨b22, 0, none⟩, 2, [97, 98]⟩ : Sl UInt8)] : List (Sl UInt8)).map Sl.xs).flatten = ⟨[97, 98], 0, 0, []⟩ := rfl
  rw [e1] at hst1
  have hstA := hst1
  obtain ⟨T1, U1, rfl, hO1, hK1⟩ := hst1
  rcases hK1 with @⟨sa1, ga1, sc1, gc1, sl1, gl1, gx1, So1, Si1, Sg1, Gc1, hm1, hl1, hin1, hg1, hgl1, hG1, hgb1⟩
  have hz1 : sl1 = [] := List.map_eq_nil_iff.1 hm1
  have hz2 : gl1.length = 0 := by rw [hgl1, hz1]; rfl
  refine o_step rfl (s_assign rfl) ?_
  refine o_nil ?_
  refine x_then (hK6 _ _ ?_)
  refine c_seq fun _ hK7 => ?_
  refine c_region ?_
  refine o_step rfl (s_move rfl) ?_
  refine o_step rfl (s_nil rfl) ?_
  refine o_step rfl (s_field rfl rfl (by decide)) ?_
  refine o_step rfl (s_ld rfl (.own meA rfl)) ?_
  refine o_step rfl (s_len rfl) ?_
  refine o_step rfl (s_assign rfl) ?_
  refine o_nil ?_
  refine x_then (hK7 _ _ ?_)
  refine c_seq fun _ hK8 => ?_
  refine c_region ?_
  refine o_step rfl (s_move rfl) ?_
  refine o_bs (E := Eb) (xs := [99]) (vs := [_]) rfl rfl rfl rfl rfl (by decide) (by decide) fun b32 S32 hS32 => ?_
  refine o_conv_same rfl hS32 pkA rfl fun S33 hS33 => ?_
  refine o_bs (E := Eb) (xs := [100]) (vs := [_]) rfl rfl rfl rfl rfl (by decide) (by decide) fun b34 S34 hS34 => ?_
  refine o_conv_same rfl hS34 pkA rfl fun S35 hS35 => ?_
  refine o_bs (E := Esl) (xs := [(⟨some ⟨b32, 0, none⟩, 1, [99]⟩ : Sl UInt8), ⟨some ⟨b34, 0, none⟩, 1, [100]⟩]) (vs := [_, _]) rfl rfl rfl rfl rfl (by decide) (by decide) fun b36 S36 hS36 => ?_
  refine o_call (write_fn hstA (some ⟨b36, 0, none⟩) 2 [(⟨some ⟨b32, 0, none⟩, 1, [99]⟩ : Sl UInt8), ⟨some ⟨b34, 0, none⟩, 1, [100]⟩] (S36 ++ (S35 ++ S33)) hS36.sl (hS36.rds.mono HIn.appL) (rows2 (x := ⟨some ⟨b32, 0, none⟩, 1, [99]⟩) (y := ⟨some ⟨b34, 0, none⟩, 1, [100]⟩) hS33.rds hS35.rds) (by decide) (show 4 ≤ 4294967296 by decide) (by decide)) rfl rfl rfl ((Pick.takeA pkA (Pick.takeA pkA (Pick.takeA pkA pkA)))) (fun _ _ => trivial) (fun v37 S37x ⟨hv37, S37, hSe37, hst2⟩ => ?_)
  subst hv37
  subst hSe37
  refine o_sk (H' := S37) hzB ?_
  have e2 : writeS 3 0 0 ⟨[97, 98], 0, 0, []⟩ (([(⟨some ⟨b32, 0, none⟩, 1, [99]⟩ : Sl UInt8), ⟨some ⟨b34, 0, none⟩, 1, [100]⟩] : List (Sl UInt8)).map Sl.xs).flatten = ⟨[], 0, 4, [[97, 98, 99, 100]]⟩ := rfl
  rw [e2] at hst2
  obtain ⟨T2, U2, rfl, hO2, hK2⟩ := hst2
  rcases hK2 with @⟨sa2, ga2, sc2, gc2, sl2, gl2, gx2, So2, Si2, Sg2, Gc2, hm2, hl2, hin2, hg2, hgl2, hG2, hgb2⟩
  rcases hO2 with @⟨ka2, kc2, Sk2, hk2⟩
  obtain ⟨x2, rfl, hx2⟩ := one_of_map hm2
  have hsl2 := hl2.sl
  have hn2 : ([x2] : List (Sl UInt8)).length = 1 := rfl
  refine o_step rfl (s_assign rfl) ?_
  refine o_nil ?_
  refine x_then (hK8 _ _ ?_)
  refine c_seq fun _ hK9 => ?_
  refine c_region ?_
  refine o_step rfl (s_move rfl) ?_
  refine o_step rfl (s_eql_t rfl rfl rfl) ?_
  refine o_step rfl (s_move rfl) ?_
  refine o_yes rfl rfl ?_
  refine o_step rfl (s_move rfl) ?_
  refine o_yes rfl rfl ?_
  refine o_step rfl (s_eql_t rfl rfl rfl) ?_
  refine o_step rfl (s_pick_t rfl rfl) ?_
  refine o_step rfl (s_move rfl) ?_
  refine o_yes rfl rfl ?_
  refine o_step rfl (s_move rfl) ?_
  refine o_yes rfl rfl ?_
  refine o_step rfl (s_eql_t rfl rfl (by omega)) ?_
  refine o_step rfl (s_pick_t rfl rfl) ?_
  refine o_step rfl (s_move rfl) ?_
  refine o_yes rfl rfl ?_
  refine o_step rfl (s_move rfl) ?_
  refine o_yes rfl rfl ?_
  refine o_step rfl (s_nil rfl) ?_
  refine o_yes rfl rfl ?_
  refine o_step rfl (s_field rfl rfl (by decide)) ?_
  refine o_yes rfl rfl ?_
  refine o_step rfl (s_ld rfl (.own meA rfl)) ?_
  refine o_yes rfl rfl ?_
  refine o_step rfl (s_len rfl) ?_
  refine o_yes rfl rfl ?_
  refine o_step rfl (s_eql_t rfl rfl rfl) ?_
  refine o_step rfl (s_pick_t rfl rfl) ?_
  refine o_step rfl (s_move rfl) ?_
  refine o_yes rfl rfl ?_
  refine o_step rfl (s_move rfl) ?_
  refine o_yes rfl rfl ?_
  refine o_step rfl (s_nil rfl) ?_
  refine o_yes rfl rfl ?_
  refine o_step rfl (s_field rfl rfl (by decide)) ?_
  refine o_yes rfl rfl ?_
  refine o_step rfl (s_ld rfl (.own meA rfl)) ?_
  refine o_yes rfl rfl ?_
  refine o_step rfl (s_idx rfl rfl (by assumption) (by omega)) ?_
  refine o_yes rfl rfl ?_
  refine o_step rfl (s_ld rfl ((hl2.rdk hiA).ld 0 0 (e := x2) rfl rfl (by decide) (by omega))) ?_
  refine o_yes rfl rfl ?_
  refine o_bs (E := Eb) (xs := [97, 98, 99, 100]) (vs := [_, _, _, _]) rfl rfl rfl rfl rfl (by decide) (by decide) fun b63 S63 hS63 => ?_
  refine o_yes rfl rfl ?_
  refine o_conv_same rfl hS63 pkA rfl fun S64 hS64 => ?_
  refine o_yes rfl rfl ?_
  refine o_callP (eqBytes_fn x2.a (some ⟨b63, 0, none⟩) x2.c 4 x2.xs [97, 98, 99, 100]) rfl rfl rfl (fun w st => ⟨((hin2 x2 (by simp)).rdk hiA).out w st, (hS64.rdk hiA).out w st⟩) (fun v65 hv65 => ?_)
  rw [decide_eq_true hx2] at hv65
  subst hv65
  refine o_step rfl (s_pick_t rfl rfl) ?_
  refine o_step rfl (s_move rfl) ?_
  refine o_yes rfl rfl ?_
  refine o_step rfl (s_move rfl) ?_
  refine o_yes rfl rfl ?_
  refine o_callP (count_fn bo 3 0 4 _ _) rfl rfl rfl (fun w st => (RdPK.own meA).out w st) (fun v69 hv69 => ?_)
  subst hv69
  refine o_yes rfl rfl ?_
  refine o_step rfl (s_eql_t rfl rfl rfl) ?_
  refine o_step rfl (s_pick_t rfl rfl) ?_
  refine o_step rfl (s_assign rfl) ?_
  refine o_nil ?_
  refine x_then (hK9 _ _ ?_)
  refine c_ret ?_
  refine ?_
  exact x_ret rfl (.tmp rfl (.nil)) (rfl)
end Go.Proofs.YtmmajabfmhipeaaDoor
