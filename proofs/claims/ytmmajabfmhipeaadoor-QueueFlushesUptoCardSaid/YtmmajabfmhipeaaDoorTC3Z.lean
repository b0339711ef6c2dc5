/- Part of the proofs over this seat: see the text that holds the theorem. Conditions: each theorem bears its own. -/
import Derived.Test.YtmmajabfmhipeaaDoorFM18Z
import Derived.Test.YtmmajabfmhipeaaDoorTG2Z
namespace Go.HL
theorem OwnL.one {α : Type} {E : α → List Value} {k T : Nat} {s : Sl α} {xs : List α} {S : Hp} (h : OwnS E k T s.v xs S) : OwnL E k T [s] [xs] S := by simpa using OwnL.cons h .nil
theorem OwnS.len' {α : Type} {E : α → List Value} {k T : Nat} {a : Option Addr} {n c : Nat} {xs : List α} {S : Hp} (h : OwnS E k T (.slice a n c) xs S) : xs.length = n := by
  obtain ⟨a', c', e', _⟩ := h.sl.out
  simp at e'; exact e'.2.1.symm
theorem sl_all {α : Type} {sls : List (Sl α)} {N : Nat} (h : ∀ s, s ∈ sls → s.xs.length ≤ N) : ∀ (j : Nat) (s : Sl α), sls[j]? = some s → s.xs.length ≤ N := fun _ s hs => h s (List.mem_of_getElem? hs)
theorem bag_z {cs : List Value} {k i : Nat} (hi : i < cs.length) (hk : i ≠ k) {v : Value} {l : List Value} (e : cs = l) (h : l[i]? = some v) : cs[i]? = some v := e ▸ h
end Go.HL
namespace Go.Proofs.YtmmajabfmhipeaaDoor
open Go Go.HL Go.Proofs Go.Tab
theorem applyN_fn (b1 o1 : Nat) (a : Option Addr) (c : Nat) (t xs : List UInt8) (n : Nat) (hn : xs.length = n) (ht : t.length = 256) : HL.Fn Tryd.prog 33 [.pointer (some ⟨b1, o1, none⟩), .slice a n c] (fun w => RdP w b1 o1 (flat Eb t) ∧ Rd Eb w (.slice a n c) xs) [] (fun v S' => ∃ a' c', v = .slice a' (applyT t xs).length c' ∧ OwnS Eb 1 5 (.slice a' (applyT t xs).length c') (applyT t xs) S') := by
  subst hn; exact apply_fn b1 o1 a c t xs ht
theorem copyN_fn (a : Option Addr) (c : Nat) (xs : List UInt8) (n : Nat) (hn : xs.length = n) : HL.Fn Tryd.prog 40 [.slice a n c] (fun w => Rd Eb w (.slice a n c) xs) [] (fun v S' => ∃ a' c', v = .slice a' xs.length c' ∧ OwnS Eb 1 5 (.slice a' xs.length c') xs S') := by
  subst hn; exact copy_fn a c xs
set_option maxHeartbeats 4000000 in
theorem tableApplies_fn (t u : List UInt8) (ht : t.length = 256) (hu : u.length = 256) (a : Option Addr) (c : Nat) (b : List UInt8) : HL.Fn Tryd.prog 5 [.agg (flat Eb t).toArray, .agg (flat Eb u).toArray, .slice a b.length c] (fun w => Rd Eb w (.slice a b.length c) b) [] (fun v _ => v = .bool true) := by
  refine fn_of Tryd.func5 rfl rfl rfl fun w0 hw => ?_
  have hs0 := hw.sl
  have hb0 := hs0.le
  have htu := thenT_len t u
  have hpF := pF_len t 256
  have hpT := pT_len t 256
  have hpI := pIdx_len t 256
  have hal := applyT_len t b
  have hal2 := applyT_len u b
  refine c_seq fun _ hK1 => ?_
  refine c_region ?_
  refine o_box rfl rfl rfl fun b3 => ?_
  refine o_box rfl rfl rfl fun b4 => ?_
  refine o_step rfl (s_assign rfl) ?_
  refine o_nil ?_
  refine x_then (hK1 _ _ ?_)
  refine c_seq fun _ hK2 => ?_
  refine c_seq fun _ hK3 => ?_
  refine c_region ?_
  refine o_step rfl (s_move rfl) ?_
  refine o_step rfl (s_len rfl) ?_
  refine o_callP (long_fn _) rfl rfl rfl (fun _ _ => trivial) (fun v31 hv31 => ?_)
  subst hv31
  refine o_nil ?_
  refine x_then (hK3 _ _ ?_)
  refine c_if rfl (fun hlong => ?_) (fun hlong => ?_)
  ·
   refine c_seq fun _ hK4 => ?_
   refine c_region ?_
   refine o_step rfl (s_assign rfl) ?_
   refine o_nil ?_
   refine x_then (hK4 _ _ ?_)
   refine c_ret ?_
   refine x_then_ret (?_)
   exact x_ret rfl (.tmp rfl (.nil)) (rfl)
  ·
   refine c_skip ?_
   refine x_then (hK2 _ _ ?_)
   refine c_seq fun _ hK5 => ?_
   refine c_region ?_
   refine o_callP (lives_fn) rfl rfl rfl (fun _ _ => trivial) (fun v32 hv32 => ?_)
   subst hv32
   refine o_step rfl (s_assign rfl) ?_
   refine o_nil ?_
   refine x_then (hK5 _ _ ?_)
   refine c_seq fun _ hK6 => ?_
   refine c_region ?_
   refine o_step rfl (s_ldB rfl (RdPK.cels (.own meA)) lnA) ?_
   refine o_step rfl (s_ldB rfl (RdPK.cels (.own meA)) lnA) ?_
   refine o_alloc rfl rfl fun b8 => ?_
   refine o_alloc rfl rfl fun b9 => ?_
   refine o_stW rfl rfl upA lnA lnA (by first | exact flat_one _ _ | exact one_rep rfl | (simp [Value.oneCell']; done)) ?_
   refine o_stW rfl rfl upA lnA lnA (by first | exact flat_one _ _ | exact one_rep rfl | (simp [Value.oneCell']; done)) ?_
   refine o_nil ?_
   refine x_then (hK6 _ _ ?_)
   refine c_seq fun _ hK7 => ?_
   refine c_region ?_
   refine o_step rfl (s_move rfl) ?_
   refine o_call (wideBytes_fn a c b (by omega)) rfl rfl rfl (by exact .nil) (fun w st => (RdK.old0 hw).out w st) (fun v36 S36 ⟨a36, hv36, hS36⟩ => ?_)
   subst hv36
   have hin := hS36.pre b.length (by rw [wide_len]; omega)
   rw [wide_take] at hin
   have hinl := hin.sl
   refine o_step rfl (s_assign rfl) ?_
   refine o_nil ?_
   refine x_then (hK7 _ _ ?_)
   refine c_seq fun _ hK8 => ?_
   refine c_region ?_
   refine o_step rfl (s_move rfl) ?_
   refine o_call (rApply_fn b3 0 a c t b ht (by omega)) rfl rfl rfl (by exact .nil) (fun w st => ⟨(RdPK.own meA).out w st, (RdK.old0 hw).out w st⟩) (fun v38 S38 ⟨a38, c38, hv38, hS38⟩ => ?_)
   subst hv38
   refine o_step rfl (s_assign rfl) ?_
   refine o_nil ?_
   refine x_then (hK8 _ _ ?_)
   refine c_seq fun _ hK9 => ?_
   refine c_region ?_
   refine o_step rfl (s_move rfl) ?_
   refine o_call (apply_fn b8 0 a36 _ t b ht) rfl rfl rfl (by exact .nil) (fun w st => ⟨(RdPK.own meA).out w st, (hin.rdk hiA).out w st⟩) (fun v40 S40 ⟨a40, c40, hv40, hS40⟩ => ?_)
   subst hv40
   refine o_step rfl (s_assign rfl) ?_
   refine o_nil ?_
   refine x_then (hK9 _ _ ?_)
   refine c_seq fun _ hK10 => ?_
   refine c_region ?_
   refine o_step rfl (s_move rfl) ?_
   refine o_call (apply_fn b8 0 a36 _ t b ht) rfl rfl rfl (by exact .nil) (fun w st => ⟨(RdPK.own meA).out w st, (hin.rdk hiA).out w st⟩) (fun v42 S42 ⟨a42, c42, hv42, hS42⟩ => ?_)
   subst hv42
   refine o_step rfl (s_assign rfl) ?_
   refine o_nil ?_
   refine x_then (hK10 _ _ ?_)
   refine c_seq fun _ hK11 => ?_
   refine c_region ?_
   refine o_step rfl (s_move rfl) ?_
   refine o_call (apply_fn b9 0 a36 _ u b hu) rfl rfl rfl (by exact .nil) (fun w st => ⟨(RdPK.own meA).out w st, (hin.rdk hiA).out w st⟩) (fun v44 S44 ⟨a44, c44, hv44, hS44⟩ => ?_)
   subst hv44
   refine o_step rfl (s_assign rfl) ?_
   refine o_nil ?_
   refine x_then (hK11 _ _ ?_)
   refine c_seq fun _ hK12 => ?_
   refine c_region ?_
   refine o_callP (then_fn b8 0 b9 0 t u ht hu) rfl rfl rfl (fun w st => ⟨(RdPK.own meA).out w st, (RdPK.own meA).out w st⟩) (fun v45 hv45 => ?_)
   subst hv45
   refine o_alloc rfl rfl fun b15 => ?_
   refine o_stW rfl rfl upA lnA lnA (by first | exact flat_one _ _ | exact one_rep rfl | (simp [Value.oneCell']; done)) ?_
   refine o_nil ?_
   refine x_then (hK12 _ _ ?_)
   refine c_seq fun _ hK13 => ?_
   refine c_region ?_
   refine o_call (print_fn b8 0 t ht) rfl rfl rfl (by exact .nil) (fun w st => (RdPK.own meA).out w st) (fun v47 S47 ⟨af47, cf47, at47, ct47, Sf47, St47, hv47, hSe47, hSf47, hSt47⟩ => ?_)
   subst hv47
   subst hSe47
   refine o_step rfl (s_move rfl) ?_
   refine o_step rfl (s_extract rfl rfl) ?_
   refine o_step rfl (s_extract rfl rfl) ?_
   refine o_step rfl (s_assign rfl) ?_
   refine o_step rfl (s_assign rfl) ?_
   refine o_nil ?_
   refine x_then (hK13 _ _ ?_)
   refine c_seq fun _ hK14 => ?_
   refine c_region ?_
   refine o_call (print_fn b8 0 t ht) rfl rfl rfl (by exact .nil) (fun w st => (RdPK.own meA).out w st) (fun v51 S51 ⟨af51, cf51, at51, ct51, Sf51, St51, hv51, hSe51, hSf51, hSt51⟩ => ?_)
   subst hv51
   subst hSe51
   refine o_step rfl (s_move rfl) ?_
   refine o_step rfl (s_extract rfl rfl) ?_
   refine o_step rfl (s_extract rfl rfl) ?_
   refine o_step rfl (s_assign rfl) ?_
   refine o_step rfl (s_assign rfl) ?_
   refine o_nil ?_
   refine x_then (hK14 _ _ ?_)
   refine c_seq fun _ hK15 => ?_
   refine c_region ?_
   refine o_call (rPrint_fn b3 0 t ht) rfl rfl rfl (by exact .nil) (fun w st => (RdPK.own meA).out w st) (fun v55 S55 ⟨af55, cf55, at55, ct55, Sf55, St55, hv55, hSe55, hSf55, hSt55⟩ => ?_)
   subst hv55
   subst hSe55
   refine o_step rfl (s_move rfl) ?_
   refine o_step rfl (s_extract rfl rfl) ?_
   refine o_step rfl (s_extract rfl rfl) ?_
   refine o_step rfl (s_assign rfl) ?_
   refine o_step rfl (s_assign rfl) ?_
   refine o_nil ?_
   refine x_then (hK15 _ _ ?_)
   refine c_seq fun _ hK16 => ?_
   refine c_seq fun _ hK17 => ?_
   refine c_drawE (S36 ++ (S38 ++ (S40 ++ (S42 ++ (S44 ++ (Sf47 ++ (St47 ++ (Sf51 ++ (St51 ++ (Sf55 ++ (St55 ++ [(b3, .cells (flat Eb t).toArray 96 (0, 0)), (b4, .cells (flat Eb u).toArray 96 (0, 0)), (b8, .cells (flat Eb t).toArray 96 (0, 0)), (b9, .cells (flat Eb u).toArray 96 (0, 0)), (b15, .cells (flat Eb (thenT t u)).toArray 96 (0, 0))]))))))))))) (fun i => false) ?_
   refine e_take 0 rfl (by kernel_rfl) (by kernel_rfl) (by kernel_rfl) (by kernel_rfl) (fun _ _ => rfl) rfl hzB (s_move rfl) ?_
   refine e_take 1 rfl (by kernel_rfl) (by kernel_rfl) (by kernel_rfl) (by kernel_rfl) (fun _ _ => rfl) rfl hzB (s_not rfl) ?_
   refine e_take 2 rfl (by kernel_rfl) (by kernel_rfl) (by kernel_rfl) (by kernel_rfl) (fun _ _ => rfl) rfl hzB (s_move rfl) ?_
   refine e_take 3 rfl (by kernel_rfl) (by kernel_rfl) (by kernel_rfl) (by kernel_rfl) (fun _ fr => by rw [wanted_of fr rfl rfl rfl]; rfl) rfl hzB (s_move rfl) ?_
   refine e_take 4 rfl (by kernel_rfl) (by kernel_rfl) (by kernel_rfl) (by kernel_rfl) (fun _ fr => by rw [wanted_of fr rfl rfl rfl]; rfl) rfl hzB (s_move rfl) ?_
   refine e_one 5 rfl (by kernel_rfl) ?_
   refine o_yes rfl rfl ?_
   refine o_callP (eqBytes_fn a40 a38 _ _ (applyT t b) (applyT t b)) rfl rfl rfl (fun w st => ⟨(hS40.rdk hiA).out w st, (hS38.rdk hiA).out w st⟩) (fun v63 hv63 => ?_)
   rw [decide_eq_true rfl] at hv63
   subst hv63
   refine o_nil ?_
   refine x_oneS hzB ?_
   refine e_take 6 rfl (by kernel_rfl) (by kernel_rfl) (by kernel_rfl) (by kernel_rfl) (fun _ fr => by rw [wanted_of fr rfl rfl rfl]; rfl) rfl hzB (s_not rfl) ?_
   refine e_take 7 rfl (by kernel_rfl) (by kernel_rfl) (by kernel_rfl) (by kernel_rfl) (fun _ _ => rfl) rfl hzB (s_pick_f rfl rfl) ?_
   refine e_take 8 rfl (by kernel_rfl) (by kernel_rfl) (by kernel_rfl) (by kernel_rfl) (fun _ _ => rfl) rfl hzB (s_move rfl) ?_
   refine e_take 9 rfl (by kernel_rfl) (by kernel_rfl) (by kernel_rfl) (by kernel_rfl) (fun _ fr => by rw [wanted_of fr rfl rfl rfl]; rfl) rfl hzB (s_move rfl) ?_
   refine e_take 10 rfl (by kernel_rfl) (by kernel_rfl) (by kernel_rfl) (by kernel_rfl) (fun _ fr => by rw [wanted_of fr rfl rfl rfl]; rfl) rfl hzB (s_move rfl) ?_
   refine e_one 11 rfl (by kernel_rfl) ?_
   refine o_yes rfl rfl ?_
   refine o_call (rApply_fn b4 0 a c u b hu (by omega)) rfl rfl rfl (by exact .nil) (fun w st => ⟨(RdPK.own meA).out w st, (RdK.old0 hw).out w st⟩) (fun v69 S69 ⟨a69, c69, hv69, hS69⟩ => ?_)
   subst hv69
   refine o_nil ?_
   refine x_oneS hzB ?_
   refine e_one 12 rfl (by kernel_rfl) ?_
   refine o_yes rfl rfl ?_
   refine o_callP (eqBytes_fn a44 a69 _ _ (applyT u b) (applyT u b)) rfl rfl rfl (fun w st => ⟨(hS44.rdk hiA).out w st, (hS69.rdk hiA).out w st⟩) (fun v70 hv70 => ?_)
   rw [decide_eq_true rfl] at hv70
   subst hv70
   refine o_nil ?_
   refine x_oneS hzB ?_
   refine e_take 13 rfl (by kernel_rfl) (by kernel_rfl) (by kernel_rfl) (by kernel_rfl) (fun _ fr => by rw [wanted_of fr rfl rfl rfl]; rfl) rfl hzB (s_not rfl) ?_
   refine e_take 14 rfl (by kernel_rfl) (by kernel_rfl) (by kernel_rfl) (by kernel_rfl) (fun _ _ => rfl) rfl hzB (s_pick_f rfl rfl) ?_
   refine e_take 15 rfl (by kernel_rfl) (by kernel_rfl) (by kernel_rfl) (by kernel_rfl) (fun _ _ => rfl) rfl hzB (s_move rfl) ?_
   refine e_take 16 rfl (by kernel_rfl) (by kernel_rfl) (by kernel_rfl) (by kernel_rfl) (fun _ fr => by rw [wanted_of fr rfl rfl rfl]; rfl) rfl hzB (s_ldB rfl (RdPK.cels (.own meA)) lnA) ?_
   refine e_one 17 rfl (by kernel_rfl) ?_
   refine o_yes rfl rfl ?_
   refine o_callP (rThen_fn b3 0 b4 0 t u ht hu) rfl rfl rfl (fun w st => ⟨(RdPK.own meA).out w st, (RdPK.own meA).out w st⟩) (fun v75 hv75 => ?_)
   subst hv75
   refine o_nil ?_
   refine x_oneS hzB ?_
   refine e_take 18 rfl (by kernel_rfl) (by kernel_rfl) (by kernel_rfl) (by kernel_rfl) (fun _ fr => by rw [wanted_of fr rfl rfl rfl]; rfl) rfl hzB (step_false (by simp) (s_neq_tab rfl rfl htu htu)) ?_
   refine e_take 19 rfl (by kernel_rfl) (by kernel_rfl) (by kernel_rfl) (by kernel_rfl) (fun _ _ => rfl) rfl hzB (s_pick_f rfl rfl) ?_
   refine e_take 20 rfl (by kernel_rfl) (by kernel_rfl) (by kernel_rfl) (by kernel_rfl) (fun _ _ => rfl) rfl hzB (s_move rfl) ?_
   refine e_take 21 rfl (by kernel_rfl) (by kernel_rfl) (by kernel_rfl) (by kernel_rfl) (fun _ fr => by rw [wanted_of fr rfl rfl rfl]; rfl) rfl hzB (s_move rfl) ?_
   refine e_take 22 rfl (by kernel_rfl) (by kernel_rfl) (by kernel_rfl) (by kernel_rfl) (fun _ fr => by rw [wanted_of fr rfl rfl rfl]; rfl) rfl hzB (s_move rfl) ?_
   refine e_one 23 rfl (by kernel_rfl) ?_
   refine o_yes rfl rfl ?_
   refine o_callP (eqBytes_fn af47 af55 _ _ (pF t 256) (pF t 256)) rfl rfl rfl (fun w st => ⟨(hSf47.rdk hiA).out w st, (hSf55.rdk hiA).out w st⟩) (fun v81 hv81 => ?_)
   rw [decide_eq_true rfl] at hv81
   subst hv81
   refine o_nil ?_
   refine x_oneS hzB ?_
   refine e_take 24 rfl (by kernel_rfl) (by kernel_rfl) (by kernel_rfl) (by kernel_rfl) (fun _ fr => by rw [wanted_of fr rfl rfl rfl]; rfl) rfl hzB (s_not rfl) ?_
   refine e_take 25 rfl (by kernel_rfl) (by kernel_rfl) (by kernel_rfl) (by kernel_rfl) (fun _ _ => rfl) rfl hzB (s_pick_f rfl rfl) ?_
   refine e_take 26 rfl (by kernel_rfl) (by kernel_rfl) (by kernel_rfl) (by kernel_rfl) (fun _ _ => rfl) rfl hzB (s_move rfl) ?_
   refine e_take 27 rfl (by kernel_rfl) (by kernel_rfl) (by kernel_rfl) (by kernel_rfl) (fun _ fr => by rw [wanted_of fr rfl rfl rfl]; rfl) rfl hzB (s_move rfl) ?_
   refine e_take 28 rfl (by kernel_rfl) (by kernel_rfl) (by kernel_rfl) (by kernel_rfl) (fun _ fr => by rw [wanted_of fr rfl rfl rfl]; rfl) rfl hzB (s_move rfl) ?_
   refine e_one 29 rfl (by kernel_rfl) ?_
   refine o_yes rfl rfl ?_
   refine o_callP (eqBytes_fn at47 at55 _ _ (pT t 256) (pT t 256)) rfl rfl rfl (fun w st => ⟨(hSt47.rdk hiA).out w st, (hSt55.rdk hiA).out w st⟩) (fun v87 hv87 => ?_)
   rw [decide_eq_true rfl] at hv87
   subst hv87
   refine o_nil ?_
   refine x_oneS hzB ?_
   refine e_take 30 rfl (by kernel_rfl) (by kernel_rfl) (by kernel_rfl) (by kernel_rfl) (fun _ fr => by rw [wanted_of fr rfl rfl rfl]; rfl) rfl hzB (s_not rfl) ?_
   refine e_take 31 rfl (by kernel_rfl) (by kernel_rfl) (by kernel_rfl) (by kernel_rfl) (fun _ _ => rfl) rfl hzB (s_pick_f rfl rfl) ?_
   refine e_done (by kernel_rfl) ?_
   refine x_then (hK17 _ _ ?_)
   refine c_false rfl ?_
   refine c_skip ?_
   refine x_then (hK16 _ _ ?_)
   refine c_seq fun _ hK18 => ?_
   refine c_seq fun _ hK19 => ?_
   refine c_region ?_
   refine o_step rfl (s_ldB rfl (RdPK.cels (.own meA)) lnA) ?_
   refine o_step rfl (s_ldB rfl (RdPK.cels (.own meA)) lnA) ?_
   refine o_step rfl (step_false (by simp) (s_neq_tab rfl rfl ht ht)) ?_
   refine o_step rfl (s_move rfl) ?_
   refine o_yes rfl rfl ?_
   refine o_step rfl (s_ldB rfl (RdPK.cels (.own meA)) lnA) ?_
   refine o_yes rfl rfl ?_
   refine o_step rfl (s_ldB rfl (RdPK.cels (.own meA)) lnA) ?_
   refine o_yes rfl rfl ?_
   refine o_step rfl (step_false (by simp) (s_neq_tab rfl rfl hu hu)) ?_
   refine o_step rfl (s_pick_f rfl rfl) ?_
   refine o_step rfl (s_move rfl) ?_
   refine o_yes rfl rfl ?_
   refine o_step rfl (s_move rfl) ?_
   refine o_yes rfl rfl ?_
   refine o_step rfl (s_move rfl) ?_
   refine o_yes rfl rfl ?_
   refine o_callP (eqBytes_fn a36 a _ _ b b) rfl rfl rfl (fun w st => ⟨(hin.rdk hiA).out w st, (RdK.old0 hw).out w st⟩) (fun v101 hv101 => ?_)
   rw [decide_eq_true rfl] at hv101
   subst hv101
   refine o_yes rfl rfl ?_
   refine o_step rfl (s_not rfl) ?_
   refine o_step rfl (s_pick_f rfl rfl) ?_
   refine o_step rfl (s_move rfl) ?_
   refine o_yes rfl rfl ?_
   refine o_step rfl (s_move rfl) ?_
   refine o_yes rfl rfl ?_
   refine o_callP (spareBytes_fn a36 _ b (by omega)) rfl rfl rfl (fun w st => (hS36.rdk hiA).out w st) (fun v106 hv106 => ?_)
   subst hv106
   refine o_yes rfl rfl ?_
   refine o_step rfl (s_not rfl) ?_
   refine o_step rfl (s_pick_f rfl rfl) ?_
   refine o_nil ?_
   refine x_then (hK19 _ _ ?_)
   refine c_false rfl ?_
   refine c_skip ?_
   refine x_then (hK18 _ _ ?_)
   refine c_seq fun _ hK20 => ?_
   refine c_seq fun _ hK21 => ?_
   refine c_region ?_
   refine o_step rfl (s_assign rfl) ?_
   refine o_nil ?_
   refine x_then (hK21 _ _ ?_)
   refine c_block ?_
   refine c_loop3 (fun (i1 : Nat) (lo : List UInt8) (So1 : Hp) => i1 ≤ (applyT t b).length ∧ OwnS Eb 1 5 (.slice a40 (applyT t b).length c40) lo So1) (fun (i1 : Nat) (lo : List UInt8) (So1 : Hp) => [(22, .int .i64 i1)]) [(6, _), (8, _), (10, _), (11, _), (12, _), (13, _), (14, _), (16, _), (17, _), (18, _), (19, _), (20, _), (21, _)] (fun (i1 : Nat) (lo : List UInt8) (So1 : Hp) => So1 ++ (S36 ++ (S38 ++ (S42 ++ (S44 ++ (Sf47 ++ (St47 ++ (Sf51 ++ (St51 ++ (Sf55 ++ (St55 ++ [(b8, .cells (flat Eb t).toArray 96 (0, 0)), (b9, .cells (flat Eb u).toArray 96 (0, 0))]))))))))))) (fun (i1 : Nat) (lo : List UInt8) (So1 : Hp) => (applyT t b).length - i1) 0 _ _ ⟨by omega, hS40⟩ sbA sbA hzB ?_
   rintro i1 lo So1 ⟨hi1, hSo1⟩
   have hlllo := hSo1.len'
   have hlslo := hSo1.sl
   rw [hlllo] at hlslo
   refine c_seq fun _ hK22 => ?_
   refine c_seq fun _ hK23 => ?_
   refine c_region ?_
   refine o_step rfl (s_move rfl) ?_
   refine o_step rfl (s_move rfl) ?_
   refine o_step rfl (s_len rfl) ?_
   refine o_step rfl (s_lss rfl rfl) ?_
   refine o_nil ?_
   refine x_then (hK23 _ _ ?_)
   refine c_if rfl (fun hlt => ?_) (fun hlt => ?_)
   ·
    refine c_skip ?_
    refine x_then (hK22 _ _ ?_)
    refine c_seq fun _ hK24 => ?_
    refine c_block ?_
    refine c_region ?_
    refine o_step rfl (s_move rfl) ?_
    refine o_step rfl (s_move rfl) ?_
    refine o_step rfl (s_move rfl) ?_
    refine o_step rfl (s_move rfl) ?_
    refine o_step rfl (s_idx rfl rfl hlslo (by omega)) ?_
    refine o_step rfl (s_ld rfl ((hSo1.rdk hiA).ld i1 0 (at0_get (by omega)) rfl (by decide) (by omega))) ?_
    refine o_step rfl (step_cast (v' := .int .u8 (UInt8.ofNat (BitVec.ofInt 8 ((at0 lo i1).toNat : Int) ^^^ BitVec.ofInt 8 85).toNat).toNat) (s_xor rfl rfl) (by rw [← wrap_u8]; rfl)) ?_
    refine o_step rfl (s_idx rfl rfl hlslo (by omega)) ?_
    refine o_stS1 i1 (UInt8.ofNat (BitVec.ofInt 8 ((at0 lo i1).toNat : Int) ^^^ BitVec.ofInt 8 85).toNat) hSo1 pkA rfl rfl rfl (by omega) (by rw [Int.toNat_natCast, Nat.mul_one]) fun S' hS' => ?_
    refine o_nil ?_
    refine x_block ?_
    refine x_then (hK24 _ _ ?_)
    refine c_region ?_
    refine o_step rfl (s_move rfl) ?_
    refine o_step rfl (s_add rfl rfl (by omega)) ?_
    refine o_step rfl (s_assign rfl) ?_
    refine o_nil ?_
    exact x_then (x_inv (i1 + 1, _, _) ⟨by omega, hS'⟩ (by first | omega | (dsimp only; omega)) sbA hzB)
   ·
    refine c_exit ?_
    refine x_then_exit ?_
    refine x_then_exit ?_
    refine x_block_exit ?_
    refine x_then (hK20 _ _ ?_)
    refine c_seq fun _ hK25 => ?_
    refine c_seq fun _ hK26 => ?_
    refine c_region ?_
    refine o_step rfl (s_assign rfl) ?_
    refine o_nil ?_
    refine x_then (hK26 _ _ ?_)
    refine c_block ?_
    refine c_loop3 (fun (i2 : Nat) (lf : List UInt8) (So2 : Hp) => i2 ≤ (pF t 256).length ∧ OwnS Eb 1 5 (.slice af47 (pF t 256).length cf47) lf So2) (fun (i2 : Nat) (lf : List UInt8) (So2 : Hp) => [(23, .int .i64 i2)]) [(6, _), (8, _), (10, _), (11, _), (12, _), (13, _), (14, _), (16, _), (17, _), (18, _), (19, _), (20, _), (21, _)] (fun (i2 : Nat) (lf : List UInt8) (So2 : Hp) => So2 ++ (So1 ++ (S36 ++ (S38 ++ (S42 ++ (S44 ++ (St47 ++ (Sf51 ++ (St51 ++ (Sf55 ++ (St55 ++ [(b8, .cells (flat Eb t).toArray 96 (0, 0)), (b9, .cells (flat Eb u).toArray 96 (0, 0))]))))))))))) (fun (i2 : Nat) (lf : List UInt8) (So2 : Hp) => (pF t 256).length - i2) 0 _ _ ⟨by omega, hSf47⟩ sbA sbA hzB ?_
    rintro i2 lf So2 ⟨hi2, hSo2⟩
    have hlllf := hSo2.len'
    have hlslf := hSo2.sl
    rw [hlllf] at hlslf
    refine c_seq fun _ hK27 => ?_
    refine c_seq fun _ hK28 => ?_
    refine c_region ?_
    refine o_step rfl (s_move rfl) ?_
    refine o_step rfl (s_move rfl) ?_
    refine o_step rfl (s_len rfl) ?_
    refine o_step rfl (s_lss rfl rfl) ?_
    refine o_nil ?_
    refine x_then (hK28 _ _ ?_)
    refine c_if rfl (fun hlt => ?_) (fun hlt => ?_)
    ·
     refine c_skip ?_
     refine x_then (hK27 _ _ ?_)
     refine c_seq fun _ hK29 => ?_
     refine c_block ?_
     refine c_region ?_
     refine o_step rfl (s_move rfl) ?_
     refine o_step rfl (s_move rfl) ?_
     refine o_step rfl (s_idx rfl rfl hlslf (by omega)) ?_
     refine o_stS1 i2 7 hSo2 pkA rfl rfl rfl (by omega) (by rw [Int.toNat_natCast, Nat.mul_one]) fun S' hS' => ?_
     refine o_nil ?_
     refine x_block ?_
     refine x_then (hK29 _ _ ?_)
     refine c_region ?_
     refine o_step rfl (s_move rfl) ?_
     refine o_step rfl (s_add rfl rfl (by omega)) ?_
     refine o_step rfl (s_assign rfl) ?_
     refine o_nil ?_
     exact x_then (x_inv (i2 + 1, _, _) ⟨by omega, hS'⟩ (by first | omega | (dsimp only; omega)) sbA hzB)
    ·
     refine c_exit ?_
     refine x_then_exit ?_
     refine x_then_exit ?_
     refine x_block_exit ?_
     refine x_then (hK25 _ _ ?_)
     refine c_seq fun _ hK30 => ?_
     refine c_seq fun _ hK31 => ?_
     refine c_region ?_
     refine o_step rfl (s_move rfl) ?_
     refine o_step rfl (s_move rfl) ?_
     refine o_callP (eqBytes_fn a42 a38 _ _ (applyT t b) (applyT t b)) rfl rfl rfl (fun w st => ⟨(hS42.rdk hiA).out w st, (hS38.rdk hiA).out w st⟩) (fun v134 hv134 => ?_)
     rw [decide_eq_true rfl] at hv134
     subst hv134
     refine o_step rfl (s_not rfl) ?_
     refine o_step rfl (s_move rfl) ?_
     refine o_yes rfl rfl ?_
     refine o_step rfl (s_move rfl) ?_
     refine o_yes rfl rfl ?_
     refine o_step rfl (s_move rfl) ?_
     refine o_yes rfl rfl ?_
     refine o_callP (eqBytes_fn af51 af55 _ _ (pF t 256) (pF t 256)) rfl rfl rfl (fun w st => ⟨(hSf51.rdk hiA).out w st, (hSf55.rdk hiA).out w st⟩) (fun v139 hv139 => ?_)
     rw [decide_eq_true rfl] at hv139
     subst hv139
     refine o_yes rfl rfl ?_
     refine o_step rfl (s_not rfl) ?_
     refine o_step rfl (s_pick_f rfl rfl) ?_
     refine o_step rfl (s_move rfl) ?_
     refine o_yes rfl rfl ?_
     refine o_step rfl (s_move rfl) ?_
     refine o_yes rfl rfl ?_
     refine o_step rfl (s_move rfl) ?_
     refine o_yes rfl rfl ?_
     refine o_callP (eqBytes_fn at47 at55 _ _ (pT t 256) (pT t 256)) rfl rfl rfl (fun w st => ⟨(hSt47.rdk hiA).out w st, (hSt55.rdk hiA).out w st⟩) (fun v145 hv145 => ?_)
     rw [decide_eq_true rfl] at hv145
     subst hv145
     refine o_yes rfl rfl ?_
     refine o_step rfl (s_not rfl) ?_
     refine o_step rfl (s_pick_f rfl rfl) ?_
     refine o_step rfl (s_move rfl) ?_
     refine o_yes rfl rfl ?_
     refine o_step rfl (s_move rfl) ?_
     refine o_yes rfl rfl ?_
     refine o_step rfl (s_move rfl) ?_
     refine o_yes rfl rfl ?_
     refine o_callP (eqBytes_fn at51 at55 _ _ (pT t 256) (pT t 256)) rfl rfl rfl (fun w st => ⟨(hSt51.rdk hiA).out w st, (hSt55.rdk hiA).out w st⟩) (fun v151 hv151 => ?_)
     rw [decide_eq_true rfl] at hv151
     subst hv151
     refine o_yes rfl rfl ?_
     refine o_step rfl (s_not rfl) ?_
     refine o_step rfl (s_pick_f rfl rfl) ?_
     refine o_nil ?_
     refine x_then (hK31 _ _ ?_)
     refine c_false rfl ?_
     refine c_skip ?_
     refine x_then (hK30 _ _ ?_)
     refine c_seq fun _ hK32 => ?_
     refine c_region ?_
     refine o_step rfl (s_move rfl) ?_
     refine o_call (apply_fn b8 0 a36 _ t b ht) rfl rfl rfl (by exact .nil) (fun w st => ⟨(RdPK.own meA).out w st, (hin.rdk hiA).out w st⟩) (fun v155 S155 ⟨a155, c155, hv155, hS155⟩ => ?_)
     subst hv155
     refine o_nil ?_
     refine x_then (hK32 _ _ ?_)
     refine c_seq fun _ hK33 => ?_
     refine c_seq fun _ hK34 => ?_
     refine c_region ?_
     refine o_step rfl (s_assign rfl) ?_
     refine o_nil ?_
     refine x_then (hK34 _ _ ?_)
     refine c_block ?_
     refine c_loop3 (fun (i3 : Nat) (li : List UInt8) (So3 : Hp) => i3 ≤ b.length ∧ OwnS Eb 1 5 (.slice a36 b.length (b.length + 64)) li So3) (fun (i3 : Nat) (li : List UInt8) (So3 : Hp) => [(24, .int .i64 i3)]) [(6, _), (8, _), (10, _), (12, _), (13, _), (14, _), (16, _), (17, _), (18, _), (19, _)] (fun (i3 : Nat) (li : List UInt8) (So3 : Hp) => So3 ++ (So1 ++ (So2 ++ (S42 ++ (S44 ++ (St47 ++ (Sf51 ++ (St51 ++ [(b8, .cells (flat Eb t).toArray 96 (0, 0))])))))))) (fun (i3 : Nat) (li : List UInt8) (So3 : Hp) => b.length - i3) 0 _ _ ⟨by omega, hin⟩ sbA sbA hzB ?_
     rintro i3 li So3 ⟨hi3, hSo3⟩
     have hllli := hSo3.len'
     have hlsli := hSo3.sl
     rw [hllli] at hlsli
     refine c_seq fun _ hK35 => ?_
     refine c_seq fun _ hK36 => ?_
     refine c_region ?_
     refine o_step rfl (s_move rfl) ?_
     refine o_step rfl (s_move rfl) ?_
     refine o_step rfl (s_len rfl) ?_
     refine o_step rfl (s_lss rfl rfl) ?_
     refine o_nil ?_
     refine x_then (hK36 _ _ ?_)
     refine c_if rfl (fun hlt => ?_) (fun hlt => ?_)
     ·
      refine c_skip ?_
      refine x_then (hK35 _ _ ?_)
      refine c_seq fun _ hK37 => ?_
      refine c_block ?_
      refine c_region ?_
      refine o_step rfl (s_move rfl) ?_
      refine o_step rfl (s_move rfl) ?_
      refine o_step rfl (s_move rfl) ?_
      refine o_step rfl (s_move rfl) ?_
      refine o_step rfl (s_idx rfl rfl hlsli (by omega)) ?_
      refine o_step rfl (s_ld rfl ((hSo3.rdk hiA).ld i3 0 (at0_get (by omega)) rfl (by decide) (by omega))) ?_
      refine o_step rfl (step_cast (v' := .int .u8 (UInt8.ofNat (BitVec.ofInt 8 ((at0 li i3).toNat : Int) ^^^ BitVec.ofInt 8 1).toNat).toNat) (s_xor rfl rfl) (by rw [← wrap_u8]; rfl)) ?_
      refine o_step rfl (s_idx rfl rfl hlsli (by omega)) ?_
      refine o_stS1 i3 (UInt8.ofNat (BitVec.ofInt 8 ((at0 li i3).toNat : Int) ^^^ BitVec.ofInt 8 1).toNat) hSo3 pkA rfl rfl rfl (by omega) (by rw [Int.toNat_natCast, Nat.mul_one]) fun S' hS' => ?_
      refine o_nil ?_
      refine x_block ?_
      refine x_then (hK37 _ _ ?_)
      refine c_region ?_
      refine o_step rfl (s_move rfl) ?_
      refine o_step rfl (s_add rfl rfl (by omega)) ?_
      refine o_step rfl (s_assign rfl) ?_
      refine o_nil ?_
      exact x_then (x_inv (i3 + 1, _, _) ⟨by omega, hS'⟩ (by first | omega | (dsimp only; omega)) sbA hzB)
     ·
      refine c_exit ?_
      refine x_then_exit ?_
      refine x_then_exit ?_
      refine x_block_exit ?_
      refine x_then (hK33 _ _ ?_)
      refine c_seq fun _ hK38 => ?_
      refine c_seq fun _ hK39 => ?_
      refine c_region ?_
      refine o_step rfl (s_assign rfl) ?_
      refine o_nil ?_
      refine x_then (hK39 _ _ ?_)
      refine c_block ?_
      refine c_loop2 (fun (i4 : Nat) (lx : List UInt8) => i4 ≤ 256 ∧ lx.length = 256) (fun (i4 : Nat) (lx : List UInt8) => [(25, .int .i64 i4)]) [(6, _), (8, _), (10, _), (12, _), (13, _), (14, _), (16, _), (17, _), (18, _), (19, _)] (fun (i4 : Nat) (lx : List UInt8) => So3 ++ (So1 ++ (So2 ++ (S42 ++ (S44 ++ (St47 ++ (Sf51 ++ (St51 ++ [(b8, .cells (flat Eb lx).toArray 96 (0, 0))])))))))) (fun (i4 : Nat) (lx : List UInt8) => 256 - i4) 0 _ ⟨by omega, ht⟩ sbA sbA hzB ?_
      rintro i4 lx ⟨hi4, hlx⟩
      refine c_seq fun _ hK40 => ?_
      refine c_seq fun _ hK41 => ?_
      refine c_region ?_
      refine o_step rfl (s_move rfl) ?_
      refine o_step rfl (s_lss rfl rfl) ?_
      refine o_nil ?_
      refine x_then (hK41 _ _ ?_)
      refine c_if rfl (fun hlt => ?_) (fun hlt => ?_)
      ·
       refine c_skip ?_
       refine x_then (hK40 _ _ ?_)
       refine c_seq fun _ hK42 => ?_
       refine c_block ?_
       refine c_region ?_
       refine o_step rfl (s_move rfl) ?_
       refine o_step rfl (s_move rfl) ?_
       refine o_step rfl (s_indexA rfl rfl (by omega)) ?_
       refine o_step rfl (s_ld rfl ((RdPK.own meA).cel (j := i4) (flatEb_get (at0_get (by omega))) (by omega))) ?_
       refine o_step rfl (step_cast (v' := .int .u8 (UInt8.ofNat (BitVec.ofInt 8 ((at0 lx i4).toNat : Int) ^^^ BitVec.ofInt 8 1).toNat).toNat) (s_xor rfl rfl) (by rw [← wrap_u8]; rfl)) ?_
       refine o_step rfl (s_indexA rfl rfl (by omega)) ?_
       refine o_stB (l := lx) (i := i4) (UInt8.ofNat (BitVec.ofInt 8 ((at0 lx i4).toNat : Int) ^^^ BitVec.ofInt 8 1).toNat) rfl rfl (by omega) (by omega) upA ?_
       refine o_nil ?_
       refine x_block ?_
       refine x_then (hK42 _ _ ?_)
       refine c_region ?_
       refine o_step rfl (s_move rfl) ?_
       refine o_step rfl (s_add rfl rfl (by omega)) ?_
       refine o_step rfl (s_assign rfl) ?_
       refine o_nil ?_
       exact x_then (x_inv (i4 + 1, lx.set i4 (UInt8.ofNat (BitVec.ofInt 8 ((at0 lx i4).toNat : Int) ^^^ BitVec.ofInt 8 1).toNat)) ⟨by omega, by rw [List.length_set]; exact hlx⟩ (by first | omega | (dsimp only; omega)) sbA hzB)
      ·
       refine c_exit ?_
       refine x_then_exit ?_
       refine x_then_exit ?_
       refine x_block_exit ?_
       refine x_then (hK38 _ _ ?_)
       refine c_seq fun _ hK43 => ?_
       refine c_region ?_
       refine o_step rfl (s_ldB rfl (RdPK.cels (.own meA)) lnA) ?_
       refine o_alloc rfl rfl fun b26 => ?_
       refine o_stW rfl rfl upA lnA lnA (by first | exact flat_one _ _ | exact one_rep rfl | (simp [Value.oneCell']; done)) ?_
       refine o_nil ?_
       refine x_then (hK43 _ _ ?_)
       refine c_seq fun _ hK44 => ?_
       refine c_region ?_
       refine o_step rfl (s_move rfl) ?_
       refine o_call (applyN_fn b8 0 a36 _ lx li _ hllli hlx) rfl rfl rfl (by exact .nil) (fun w st => ⟨(RdPK.own meA).out w st, (hSo3.rdk hiA).out w st⟩) (fun v182 S182 ⟨a182, c182, hv182, hS182⟩ => ?_)
       subst hv182
       refine o_step rfl (s_assign rfl) ?_
       refine o_nil ?_
       refine x_then (hK44 _ _ ?_)
       refine c_seq fun _ hK45 => ?_
       refine c_seq fun _ hK46 => ?_
       refine c_region ?_
       refine o_step rfl (s_move rfl) ?_
       refine o_step rfl (s_move rfl) ?_
       refine o_call (copyN_fn a36 _ li _ hllli) rfl rfl rfl (by exact .nil) (fun w st => (hSo3.rdk hiA).out w st) (fun v185 S185 ⟨a185, c185, hv185, hS185⟩ => ?_)
       subst hv185
       refine o_call (rApply_fn b26 0 a185 c185 lx li hlx (by omega)) rfl rfl rfl (by exact .nil) (fun w st => ⟨(RdPK.own meA).out w st, (hS185.rdk hiA).out w st⟩) (fun v186 S186 ⟨a186, c186, hv186, hS186⟩ => ?_)
       subst hv186
       refine o_callP (eqBytes_fn a182 a186 _ _ (applyT lx li) (applyT lx li)) rfl rfl rfl (fun w st => ⟨(hS182.rdk hiA).out w st, (hS186.rdk hiA).out w st⟩) (fun v187 hv187 => ?_)
       rw [decide_eq_true rfl] at hv187
       subst hv187
       refine o_step rfl (s_not rfl) ?_
       refine o_nil ?_
       refine x_then (hK46 _ _ ?_)
       refine c_false rfl ?_
       refine c_skip ?_
       refine x_then (hK45 _ _ ?_)
       refine c_seq fun _ hK47 => ?_
       refine c_region ?_
       refine o_step rfl (step_cast (v' := .agg (List.replicate 19 (Value.slice none 0 0)).toArray) (s_build (cs := [_, _, _, _, _, _, _, _, _, _, _, _, _, _, _, _, _, _, _]) (vs := []) rfl rfl .nil) rfl) ?_
       refine o_box rfl rfl rfl fun b190 => ?_
       refine o_step rfl (s_assign rfl) ?_
       refine o_nil ?_
       refine x_then (hK47 _ _ ?_)
       refine c_seq fun _ hK48 => ?_
       refine c_region ?_
       refine o_step rfl (s_move rfl) ?_
       refine o_step rfl (s_move rfl) ?_
       have hz0 : ∀ i, i < 19 → i ≠ 0 → (List.replicate 19 (Value.slice none 0 0))[i]? = some (.slice none 0 0) := fun i h1 _ => by rw [List.getElem?_replicate, if_pos h1]
       refine o_call (addBytes_fn b190 (List.replicate 19 (Value.slice none 0 0)) [] (⟨a40, c40, (applyT t b)⟩ : Sl UInt8) none 0 [] (by rfl) (by simp) .nil) rfl rfl rfl pkA (fun _ _ => trivial) (fun v193 S193 ⟨cs193, oa193, oc193, So193, hv193, hb193, hc193, hS193⟩ => ?_)
       subst hv193
       have hz193 := fun i h1 h2 => (hc193 i h2).trans (hz0 i h1 h2)
       refine o_nil ?_
       refine x_then (hK48 _ _ ?_)
       refine c_seq fun _ hK49 => ?_
       refine c_region ?_
       refine o_step rfl (s_move rfl) ?_
       refine o_step rfl (s_move rfl) ?_
       refine o_call (addBytes_fn b190 cs193 _ (⟨a42, c42, (applyT t b)⟩ : Sl UInt8) _ _ _ hb193 (by simp) hS193) rfl rfl rfl pkA (fun _ _ => trivial) (fun v196 S196 ⟨cs196, oa196, oc196, So196, hv196, hb196, hc196, hS196⟩ => ?_)
       subst hv196
       have hz196 := fun i h1 h2 => (hc196 i h2).trans (hz193 i h1 h2)
       refine o_nil ?_
       refine x_then (hK49 _ _ ?_)
       refine c_seq fun _ hK50 => ?_
       refine c_region ?_
       refine o_step rfl (s_move rfl) ?_
       refine o_step rfl (s_move rfl) ?_
       refine o_call (addBytes_fn b190 cs196 _ (⟨a44, c44, (applyT u b)⟩ : Sl UInt8) _ _ _ hb196 (by simp) hS196) rfl rfl rfl pkA (fun _ _ => trivial) (fun v199 S199 ⟨cs199, oa199, oc199, So199, hv199, hb199, hc199, hS199⟩ => ?_)
       subst hv199
       have hz199 := fun i h1 h2 => (hc199 i h2).trans (hz196 i h1 h2)
       refine o_nil ?_
       refine x_then (hK50 _ _ ?_)
       refine c_seq fun _ hK51 => ?_
       refine c_region ?_
       refine o_step rfl (s_move rfl) ?_
       refine o_step rfl (s_move rfl) ?_
       refine o_call (addBytes_fn b190 cs199 _ (⟨a182, c182, (applyT lx li)⟩ : Sl UInt8) _ _ _ hb199 (by simp) hS199) rfl rfl rfl pkA (fun _ _ => trivial) (fun v202 S202 ⟨cs202, oa202, oc202, So202, hv202, hb202, hc202, hS202⟩ => ?_)
       subst hv202
       have hz202 := fun i h1 h2 => (hc202 i h2).trans (hz199 i h1 h2)
       refine o_nil ?_
       refine x_then (hK51 _ _ ?_)
       refine c_seq fun _ hK52 => ?_
       refine c_region ?_
       refine o_step rfl (s_move rfl) ?_
       refine o_step rfl (s_move rfl) ?_
       refine o_call (addBytes_fn b190 cs202 _ (⟨af47, cf47, (pF t 256)⟩ : Sl UInt8) _ _ _ hb202 (by simp) hS202) rfl rfl rfl pkA (fun _ _ => trivial) (fun v205 S205 ⟨cs205, oa205, oc205, So205, hv205, hb205, hc205, hS205⟩ => ?_)
       subst hv205
       have hz205 := fun i h1 h2 => (hc205 i h2).trans (hz202 i h1 h2)
       refine o_nil ?_
       refine x_then (hK52 _ _ ?_)
       refine c_seq fun _ hK53 => ?_
       refine c_region ?_
       refine o_step rfl (s_move rfl) ?_
       refine o_step rfl (s_move rfl) ?_
       refine o_call (addBytes_fn b190 cs205 _ (⟨at47, ct47, (pT t 256)⟩ : Sl UInt8) _ _ _ hb205 (by simp) hS205) rfl rfl rfl pkA (fun _ _ => trivial) (fun v208 S208 ⟨cs208, oa208, oc208, So208, hv208, hb208, hc208, hS208⟩ => ?_)
       subst hv208
       have hz208 := fun i h1 h2 => (hc208 i h2).trans (hz205 i h1 h2)
       refine o_nil ?_
       refine x_then (hK53 _ _ ?_)
       refine c_seq fun _ hK54 => ?_
       refine c_region ?_
       refine o_step rfl (s_move rfl) ?_
       refine o_step rfl (s_move rfl) ?_
       refine o_call (addBytes_fn b190 cs208 _ (⟨af51, cf51, (pF t 256)⟩ : Sl UInt8) _ _ _ hb208 (by simp) hS208) rfl rfl rfl pkA (fun _ _ => trivial) (fun v211 S211 ⟨cs211, oa211, oc211, So211, hv211, hb211, hc211, hS211⟩ => ?_)
       subst hv211
       have hz211 := fun i h1 h2 => (hc211 i h2).trans (hz208 i h1 h2)
       refine o_nil ?_
       refine x_then (hK54 _ _ ?_)
       refine c_seq fun _ hK55 => ?_
       refine c_region ?_
       refine o_step rfl (s_move rfl) ?_
       refine o_step rfl (s_move rfl) ?_
       refine o_call (addBytes_fn b190 cs211 _ (⟨at51, ct51, (pT t 256)⟩ : Sl UInt8) _ _ _ hb211 (by simp) hS211) rfl rfl rfl pkA (fun _ _ => trivial) (fun v214 S214 ⟨cs214, oa214, oc214, So214, hv214, hb214, hc214, hS214⟩ => ?_)
       subst hv214
       have hz214 := fun i h1 h2 => (hc214 i h2).trans (hz211 i h1 h2)
       refine o_nil ?_
       refine x_then (hK55 _ _ ?_)
       refine c_seq fun _ hK56 => ?_
       refine c_region ?_
       refine o_step rfl (s_move rfl) ?_
       refine o_step rfl (s_move rfl) ?_
       refine o_call (addBytes_fn b190 cs214 _ (⟨a36, (b.length + 64), b⟩ : Sl UInt8) _ _ _ hb214 (by simp) hS214) rfl rfl rfl pkA (fun _ _ => trivial) (fun v217 S217 ⟨cs217, oa217, oc217, So217, hv217, hb217, hc217, hS217⟩ => ?_)
       subst hv217
       have hz217 := fun i h1 h2 => (hc217 i h2).trans (hz214 i h1 h2)
       refine o_nil ?_
       refine x_then (hK56 _ _ ?_)
       refine c_seq fun _ hK57 => ?_
       refine c_region ?_
       refine o_step rfl (s_move rfl) ?_
       refine o_call (apart_fn b190 cs217 [(⟨a40, c40, (applyT t b)⟩ : Sl UInt8), (⟨a42, c42, (applyT t b)⟩ : Sl UInt8), (⟨a44, c44, (applyT u b)⟩ : Sl UInt8), (⟨a182, c182, (applyT lx li)⟩ : Sl UInt8), (⟨af47, cf47, (pF t 256)⟩ : Sl UInt8), (⟨at47, ct47, (pT t 256)⟩ : Sl UInt8), (⟨af51, cf51, (pF t 256)⟩ : Sl UInt8), (⟨at51, ct51, (pT t 256)⟩ : Sl UInt8), (⟨a36, (b.length + 64), b⟩ : Sl UInt8)] _ _ So217 (So1 ++ (S42 ++ (S44 ++ (S182 ++ (So2 ++ (St47 ++ (Sf51 ++ (St51 ++ (So3))))))))) hb217 hz217 (by simp) (sl_all (by simp only [List.mem_cons, List.not_mem_nil, or_false, forall_eq_or_imp, forall_eq, applyT_len]; omega)) hS217 _ (.cons hSo1 (.cons hS42 (.cons hS44 (.cons hS182 (.cons hSo2 (.cons hSt47 (.cons hSf51 (.cons hSt51 (OwnL.one hSo3)))))))))) rfl rfl rfl ((Pick.takeC pkA (Pick.takeA pkA (Pick.takeA pkA (Pick.takeA pkA (Pick.takeA pkA (Pick.takeA pkA (Pick.takeA pkA (Pick.takeA pkA (Pick.takeA pkA (Pick.takeA pkA pkA))))))))))) (fun _ _ => trivial) (fun v219 S219 ⟨hv219, hS219⟩ => ?_)
       subst hv219
       subst hS219
       refine o_step rfl (s_assign rfl) ?_
       refine o_nil ?_
       refine x_then (hK57 _ _ ?_)
       refine c_ret ?_
       refine ?_
       exact x_ret rfl (.tmp rfl (.nil)) (rfl)
def row0 (sls : List (Sl UInt8)) (j : Nat) : Sl UInt8 := sls.getD j ⟨none, 0, []⟩
theorem row0_get {sls : List (Sl UInt8)} {j : Nat} (h : j < sls.length) : sls[j]? = some (row0 sls j) := by simp [row0, List.getD, List.getElem?_eq_getElem h]
theorem row0_mem {sls : List (Sl UInt8)} {j : Nat} (h : j < sls.length) : row0 sls j ∈ sls := List.mem_of_getElem? (row0_get h)
theorem rowcp {sls acc : List (Sl UInt8)} {j : Nat} (hj : j < sls.length) (h : acc.map Sl.xs = (sls.take j).map Sl.xs) {a : Option Addr} {c : Nat} : (acc ++ [(⟨a, c, (row0 sls j).xs⟩ : Sl UInt8)]).map Sl.xs = (sls.take (j + 1)).map Sl.xs := by
  rw [List.map_append, h, List.take_add_one, row0_get hj, List.map_append]
  rfl
theorem rows_snoc {acc : List (Sl UInt8)} {Si S : Hp} {a : Option Addr} {c : Nat} {xs : List UInt8} {k T : Nat} (h : ∀ s ∈ acc, RdS Eb s.v s.xs Si) (ho : OwnS Eb k T (.slice a xs.length c) xs S) : ∀ s ∈ acc ++ [(⟨a, c, xs⟩ : Sl UInt8)], RdS Eb s.v s.xs (S ++ Si) := by
  intro s hs
  rcases List.mem_append.1 hs with hs | hs
  · exact (h s hs).mono HIn.appR
  · obtain rfl : s = ⟨a, c, xs⟩ := by simpa using hs
    exact ho.rds.mono HIn.appL
/-- a sink without a disk: how often it fails, with what, what was said to it; the lists themselves are its own -/
inductive SinkG (bs : Nat) (fail err : Int) (said : List (List UInt8)) : Hp → Prop
  | mk {sa ga : Option Addr} {sc gc : Nat} {sl gl : List (Sl UInt8)} {gx : List (List UInt8)} {So Si Sg Gc : Hp} (hm : sl.map Sl.xs = said) (hO : OwnS Esl 1 40 (.slice sa sl.length sc) sl So) (hin : ∀ s ∈ sl, RdS Eb s.v s.xs Si) (hg : OwnS Esl 1 40 (.slice ga gl.length gc) gl Sg) (hgl : gl.length = sl.length)
      (hG : OwnL Eb 1 5 gl gx Gc) (hgb : ∀ s ∈ gl, s.xs.length ≤ 4294967296) :
    SinkG bs fail err said ((bs, .cells [.pointer none, .string ⟨#[]⟩, .int .i64 fail, .int .i64 err, .int .i64 sl.length, .slice sa sl.length sc, .slice ga gl.length gc].toArray 79 (0, 0)) :: (So ++ (Si ++ (Sg ++ Gc))))
theorem SinkG.mk1 {bs : Nat} {fail err : Int} {sl gl : List (Sl UInt8)} {gx : List (List UInt8)} {b : List UInt8} {sa ga a a2 : Option Addr} {sc gc c c2 : Nat} {So Sx Si Sg Gc Sb : Hp} (hO : OwnS Esl 1 40 (.slice sa (sl ++ [(⟨a, c, b⟩ : Sl UInt8)]).length sc) (sl ++ [(⟨a, c, b⟩ : Sl UInt8)]) So)
    (hin : ∀ s ∈ sl ++ [(⟨a, c, b⟩ : Sl UInt8)], RdS Eb s.v s.xs (Sx ++ Si)) (hg : OwnS Esl 1 40 (.slice ga (gl ++ [(⟨a2, c2, b⟩ : Sl UInt8)]).length gc) (gl ++ [(⟨a2, c2, b⟩ : Sl UInt8)]) Sg) (hgl : gl.length = sl.length) (hG : OwnL Eb 1 5 gl gx Gc) (hgb : ∀ s ∈ gl, s.xs.length ≤ 4294967296)
    (hb : OwnS Eb 1 5 (.slice a2 b.length c2) b Sb) (hbl : b.length ≤ 4294967296) :
    SinkG bs fail err (sl.map Sl.xs ++ [b]) ((bs, .cells [.pointer none, .string ⟨#[]⟩, .int .i64 fail, .int .i64 err, .int .i64 (sl.length + 1), .slice sa (sl ++ [(⟨a, c, b⟩ : Sl UInt8)]).length sc, .slice ga (gl ++ [(⟨a2, c2, b⟩ : Sl UInt8)]).length gc].toArray 79 (0, 0)) :: (So ++ (Sx ++ (Si ++ (Sg ++ (Gc ++ Sb)))))) := by
  have h := SinkG.mk (bs := bs) (fail := fail) (err := err) (said := sl.map Sl.xs ++ [b]) (by simp) hO hin hg (by simp [hgl]) (OwnL.snoc (s := ⟨a2, c2, b⟩) hG hb) (fun s hs => by
    rcases List.mem_append.1 hs with hs | hs
    · exact hgb s hs
    · obtain rfl : s = ⟨a2, c2, b⟩ := by simpa using hs
      exact hbl)
  have e : ((sl ++ [(⟨a, c, b⟩ : Sl UInt8)]).length : Int) = sl.length + 1 := by simp
  rw [e, List.append_assoc Sx] at h
  exact h
inductive OutH (bo : Nat) (lim : Int) (f : Value) (kept : List UInt8) (err cnt : Int) : Hp → Prop
  | mk {ka : Option Addr} {kc : Nat} {Sk : Hp} (hk : OwnS Eb 1 5 (.slice ka kept.length kc) kept Sk) :
    OutH bo lim f kept err cnt ((bo, .cells [.int .i64 lim, f, .slice ka kept.length kc, .int .i64 err, .int .i64 cnt].toArray 122 (0, 0)) :: Sk)
structure OS where
  kept : List UInt8
  err : Int
  cnt : Int
  said : List (List UInt8)
def sinkF (bs : Nat) : Value := .func (.func 15) [.pointer (some ⟨bs, 0, none⟩)].toArray [].toArray
structure StG (bo bs : Nat) (lim fail serr : Int) (s : OS) (S : Hp) : Prop where
  out : ∃ S1 S2, S = S1 ++ S2 ∧ OutH bo lim (sinkF bs) s.kept s.err s.cnt S1 ∧ SinkG bs fail serr s.said S2
def tookE (fail serr : Int) (s : OS) : Int := if (s.said.length : Int) + 1 = fail then serr else 0
def handS (fail serr : Int) (s : OS) : OS := if s.kept = [] then s else ⟨[], tookE fail serr s, if tookE fail serr s = 0 then s.cnt + s.kept.length else s.cnt, s.said ++ [s.kept]⟩
def handE (fail serr : Int) (s : OS) : Int := if s.kept = [] then 0 else tookE fail serr s
theorem handOn_end {bo bs kc : Nat} {lim fail serr cnt : Int} {kept : List UInt8} {said : List (Sl UInt8)} {ka : Option Addr} {Sk S2 : Hp} (hz : ¬ (kept.length : Int) = 0) (hk : OwnS Eb 1 5 (.slice ka kept.length kc) kept Sk) (hs : SinkG bs fail serr (said.map Sl.xs ++ [kept]) S2) :
    Value.int .i64 (if (said.length : Int) + 1 = fail then serr else 0) = .int .i64 (handE fail serr ⟨kept, 0, cnt, said.map Sl.xs⟩) ∧
    StG bo bs lim fail serr (handS fail serr ⟨kept, 0, cnt, said.map Sl.xs⟩) ((bo, .cells [.int .i64 lim, sinkF bs, .slice ka 0 kc, .int .i64 (if (said.length : Int) + 1 = fail then serr else 0), .int .i64 (if (if (said.length : Int) + 1 = fail then serr else 0) = 0 then cnt + kept.length else cnt)].toArray 122 (0, 0)) :: (Sk ++ S2)) := by
  have hk0 : kept ≠ [] := fun e => hz (by subst e; rfl)
  have e : (if (said.length : Int) + 1 = fail then serr else 0) = tookE fail serr ⟨kept, 0, cnt, said.map Sl.xs⟩ := by simp [tookE]
  rw [e, handE, if_neg hk0, handS, if_neg hk0]
  have h0 := hk.pre 0 (Nat.zero_le _)
  rw [List.take_zero] at h0
  exact ⟨rfl, _ :: Sk, S2, rfl, OutH.mk (kept := []) h0, hs⟩
def keepS (s : OS) (b : List UInt8) : OS := ⟨s.kept ++ b, s.err, s.cnt, s.said⟩
def writeS (lim fail serr : Int) (s : OS) (b : List UInt8) : OS := if s.err ≠ 0 then s else if ((s.kept ++ b).length : Int) < lim then keepS s b else handS fail serr (keepS s b)
def writeE (lim fail serr : Int) (s : OS) (b : List UInt8) : Int := if s.err ≠ 0 then s.err else if ((s.kept ++ b).length : Int) < lim then 0 else handE fail serr (keepS s b)
def flushS (fail serr : Int) (s : OS) : OS := if s.err ≠ 0 then s else handS fail serr s
def flushE (fail serr : Int) (s : OS) : Int := if s.err ≠ 0 then s.err else handE fail serr s
def catK (kept : List UInt8) (sls : List (Sl UInt8)) (j : Nat) : List UInt8 := kept ++ ((sls.take j).map Sl.xs).flatten
theorem catK_zero {kept : List UInt8} {sls : List (Sl UInt8)} : catK kept sls 0 = kept := by simp [catK]
theorem catK_all {kept : List UInt8} {sls : List (Sl UInt8)} : catK kept sls sls.length = kept ++ (sls.map Sl.xs).flatten := by rw [catK, List.take_length]
theorem catK_succ {kept : List UInt8} {sls : List (Sl UInt8)} {j : Nat} (h : j < sls.length) : catK kept sls (j + 1) = catK kept sls j ++ (row0 sls j).xs := by
  rw [catK, catK, List.take_add_one, row0_get h, List.map_append, List.flatten_append, List.append_assoc]
  simp
theorem catK_mono {kept : List UInt8} {sls : List (Sl UInt8)} {i : Nat} (h : i ≤ sls.length) : (catK kept sls i).length ≤ (catK kept sls sls.length).length := by
  rw [catK_all, catK]
  conv => rhs; rw [← List.take_append_drop i sls, List.map_append, List.flatten_append]
  simp only [List.length_append]
  omega
theorem catK_lt {kept : List UInt8} {sls : List (Sl UInt8)} {lim : Int} : ((catK kept sls sls.length).length : Int) < lim ↔ ((kept ++ (sls.map Sl.xs).flatten).length : Int) < lim := by rw [catK_all]
theorem catK_own {kept : List UInt8} {sls : List (Sl UInt8)} {ka : Option Addr} {kc : Nat} {S : Hp} (h : OwnS Eb 1 5 (.slice ka (catK kept sls sls.length).length kc) (catK kept sls sls.length) S) :
    OwnS Eb 1 5 (.slice ka (catK kept sls sls.length).length kc) (kept ++ (sls.map Sl.xs).flatten) S := by rw [catK_all] at h ⊢; exact h
/-- the document's output -/
inductive OutR (bo bs : Nat) (lim : Int) (kept : List UInt8) (err cnt : Int) : Hp → Prop
  | mk {ka : Option Addr} {kc : Nat} {Sk : Hp} (hk : OwnS Eb 1 5 (.slice ka kept.length kc) kept Sk) :
    OutR bo bs lim kept err cnt ((bo, .cells [.bool true, .int .i64 lim, .pointer (some ⟨bs, 0, none⟩), .slice ka kept.length kc, .int .i64 err, .int .i64 cnt].toArray 125 (0, 0)) :: Sk)
structure StR (bo bs : Nat) (lim fail serr : Int) (s : OS) (S : Hp) : Prop where
  out : ∃ S1 S2, S = S1 ++ S2 ∧ OutR bo bs lim s.kept s.err s.cnt S1 ∧ SinkG bs fail serr s.said S2
theorem handR_end {bo bs : Nat} {lim fail serr cnt : Int} {kept : List UInt8} {said : List (Sl UInt8)} {S2 : Hp} (hz : ¬ (kept.length : Int) = 0) (hs : SinkG bs fail serr (said.map Sl.xs ++ [kept]) S2) :
    Value.int .i64 (if (said.length : Int) + 1 = fail then serr else 0) = .int .i64 (handE fail serr ⟨kept, 0, cnt, said.map Sl.xs⟩) ∧
    StR bo bs lim fail serr (handS fail serr ⟨kept, 0, cnt, said.map Sl.xs⟩) ((bo, .cells [.bool true, .int .i64 lim, .pointer (some ⟨bs, 0, none⟩), .slice none 0 0, .int .i64 (if (said.length : Int) + 1 = fail then serr else 0), .int .i64 (if (if (said.length : Int) + 1 = fail then serr else 0) = 0 then cnt + kept.length else cnt)].toArray 125 (0, 0)) :: S2) := by
  have hk0 : kept ≠ [] := fun e => hz (by subst e; rfl)
  have e : (if (said.length : Int) + 1 = fail then serr else 0) = tookE fail serr ⟨kept, 0, cnt, said.map Sl.xs⟩ := by simp [tookE]
  rw [e, handE, if_neg hk0, handS, if_neg hk0]
  exact ⟨rfl, [_], S2, rfl, OutR.mk (kept := []) .nil, hs⟩
def newH (bo bs : Nat) (lim fail serr : Int) : Hp := [(bo, .cells [.int .i64 lim, sinkF bs, .slice none 0 0, .int .i64 0, .int .i64 0].toArray 122 (0, 0)), (bs, .cells [.pointer none, .string ⟨#[]⟩, .int .i64 fail, .int .i64 serr, .int .i64 0, .slice none 0 0, .slice none 0 0].toArray 79 (0, 0))]
def newR (bo bs : Nat) (lim fail serr : Int) : Hp := [(bo, .cells [.bool true, .int .i64 lim, .pointer (some ⟨bs, 0, none⟩), .slice none 0 0, .int .i64 0, .int .i64 0].toArray 125 (0, 0)), (bs, .cells [.pointer none, .string ⟨#[]⟩, .int .i64 fail, .int .i64 serr, .int .i64 0, .slice none 0 0, .slice none 0 0].toArray 79 (0, 0))]
theorem sinkG_new {bs : Nat} {fail serr : Int} : SinkG bs fail serr [] [(bs, .cells [.pointer none, .string ⟨#[]⟩, .int .i64 fail, .int .i64 serr, .int .i64 0, .slice none 0 0, .slice none 0 0].toArray 79 (0, 0))] :=
  SinkG.mk (bs := bs) (fail := fail) (err := serr) (said := []) (sl := []) (gl := []) (gx := []) (sa := none) (ga := none) (sc := 0) (gc := 0) (So := []) (Si := []) (Sg := []) (Gc := []) rfl .nil (by simp) .nil rfl .nil (by simp)
theorem stG_new {bo bs : Nat} {lim fail serr : Int} : StG bo bs lim fail serr ⟨[], 0, 0, []⟩ (newH bo bs lim fail serr) := ⟨[_], [_], rfl, OutH.mk (kept := []) .nil, sinkG_new⟩
theorem stR_new {bo bs : Nat} {lim fail serr : Int} : StR bo bs lim fail serr ⟨[], 0, 0, []⟩ (newR bo bs lim fail serr) := ⟨[_], [_], rfl, OutR.mk (kept := []) .nil, sinkG_new⟩
theorem rows1 {x : Sl UInt8} {A B : Hp} (h : RdS Eb x.v x.xs B) : ∀ s ∈ [x], RdS Eb s.v s.xs (A ++ B) := by
  intro s hs
  obtain rfl : s = x := by simpa using hs
  exact h.mono HIn.appR
theorem rows2 {x y : Sl UInt8} {A B C : Hp} (hx : RdS Eb x.v x.xs C) (hy : RdS Eb y.v y.xs B) : ∀ s ∈ [x, y], RdS Eb s.v s.xs (A ++ (B ++ C)) := by
  intro s hs
  rcases List.mem_cons.1 hs with rfl | hs
  · exact hx.mono fun _ h => List.mem_append_right _ (List.mem_append_right _ h)
  · obtain rfl : s = y := by simpa using hs
    exact hy.mono fun _ h => List.mem_append_right _ (List.mem_append_left _ h)
theorem one_of_map {sl : List (Sl UInt8)} {b : List UInt8} (h : sl.map Sl.xs = [b]) : ∃ x, sl = [x] ∧ x.xs = b := by
  match sl, h with
  | [x], h => exact ⟨x, rfl, by simpa using h⟩
structure OpV where
  f : Bool
  p : Sl (Sl UInt8)
def Eop (o : OpV) : List Value := [.bool o.f, o.p.v]
instance : Enc Eop 2 := ⟨fun _ => rfl, fun _ v h => by
  simp only [Eop, List.mem_cons, List.not_mem_nil, or_false] at h
  rcases h with rfl | rfl <;> rfl⟩
def op0 (sc : List OpV) (j : Nat) : OpV := sc.getD j ⟨false, ⟨none, 0, []⟩⟩
theorem op0_get {sc : List OpV} {j : Nat} (h : j < sc.length) : sc[j]? = some (op0 sc j) := by simp [op0, List.getD, List.getElem?_eq_getElem h]
theorem op0_mem {sc : List OpV} {j : Nat} (h : j < sc.length) : op0 sc j ∈ sc := List.mem_of_getElem? (op0_get h)
def cost (o : OpV) : Nat := o.p.xs.length + (o.p.xs.map Sl.xs).flatten.length
theorem cost_eq {o : OpV} : cost o = o.p.xs.length + (catK [] o.p.xs o.p.xs.length).length := by rw [catK_all]; rfl
def tot (sc : List OpV) (j : Nat) : Nat := ((sc.take j).map cost).sum
theorem tot_zero {sc : List OpV} : tot sc 0 = 0 := by simp [tot]
theorem tot_succ {sc : List OpV} {j : Nat} (h : j < sc.length) : tot sc (j + 1) = tot sc j + cost (op0 sc j) := by
  rw [tot, tot, List.take_add_one, op0_get h, List.map_append, List.sum_append]
  simp
theorem tot_mono {sc : List OpV} {j : Nat} : tot sc j ≤ tot sc sc.length := by
  rw [tot, tot, List.take_length]
  conv => rhs; rw [← List.take_append_drop j sc, List.map_append, List.sum_append]
  omega
theorem long_end {sc : List OpV} {j : Nat} {N : Int} (hj : j = sc.length) (hN : N < 2147483648 → N = sc.length + tot sc j) (h : ¬ (2147483647 : Int) < N) : sc.length + tot sc sc.length ≤ 2147483647 := by
  subst hj
  have := hN (by omega)
  omega
theorem rows_step {xs ys : List (Sl UInt8)} {j : Nat} (h1 : j < xs.length) (h2 : j < ys.length) (h : (xs.take j).map Sl.xs = (ys.take j).map Sl.xs) (e : (row0 xs j).xs = (row0 ys j).xs) : (xs.take (j + 1)).map Sl.xs = (ys.take (j + 1)).map Sl.xs := by
  rw [List.take_add_one, List.take_add_one, List.map_append, List.map_append, row0_get h1, row0_get h2, h]
  simp [e]
theorem rows_all {xs : List (Sl UInt8)} {j : Nat} (h : xs.length ≤ j) : (xs.take j).map Sl.xs = xs.map Sl.xs := by rw [List.take_of_length_le h]
theorem rows_ne {xs ys : List (Sl UInt8)} {j : Nat} (h1 : j < xs.length) (h2 : j < ys.length) (h : xs.map Sl.xs = ys.map Sl.xs) : (row0 xs j).xs = (row0 ys j).xs := by
  have := congrArg (fun l => l[j]?) h
  simpa [List.getElem?_map, row0_get h1, row0_get h2] using this
theorem HL.Fn.weak {P : Program} {f : FuncId} {args : List Value} {pre : World → Prop} {S : Hp} {post post' : Value → Hp → Prop} (h : HL.Fn P f args pre S post) (hp : ∀ v S', post v S' → post' v S') : HL.Fn P f args pre S post' :=
  ⟨h.enters, fun w hw hS => (h.calls w hw hS).mono fun _ _ hq => by
    obtain ⟨v, S', e, hq, st⟩ := hq.out
    exact ⟨v, S', e, hp v S' hq, st⟩⟩
def BdG (s : OS) (n k : Nat) : Prop := 0 ≤ s.cnt ∧ s.cnt + s.kept.length ≤ n ∧ s.said.length ≤ k
theorem BdG.new {n k : Nat} : BdG ⟨[], 0, 0, []⟩ n k := ⟨by decide, by simp, Nat.zero_le _⟩
theorem BdG.mono {s : OS} {n k n' k' : Nat} (h : BdG s n k) (hn : n ≤ n') (hk : k ≤ k') : BdG s n' k' := ⟨h.1, by have := h.2.1; omega, by have := h.2.2; omega⟩
theorem BdG.hand {fail serr : Int} {s : OS} {n k : Nat} (h : BdG s n k) : BdG (handS fail serr s) n (k + 1) := by
  obtain ⟨h2, h3, h4⟩ := h
  unfold handS
  split
  · exact ⟨h2, h3, by omega⟩
  · have e : (if tookE fail serr s = 0 then s.cnt + (s.kept.length : Int) else s.cnt) = s.cnt + s.kept.length ∨ (if tookE fail serr s = 0 then s.cnt + (s.kept.length : Int) else s.cnt) = s.cnt := by split <;> simp
    refine ⟨?_, ?_, by simp; omega⟩
    · show 0 ≤ (if tookE fail serr s = 0 then s.cnt + (s.kept.length : Int) else s.cnt)
      omega
    · show (if tookE fail serr s = 0 then s.cnt + (s.kept.length : Int) else s.cnt) + ((0 : Nat) : Int) ≤ n
      omega
theorem BdG.flush {fail serr : Int} {s : OS} {n k : Nat} (h : BdG s n k) : BdG (flushS fail serr s) n (k + 1) := by
  unfold flushS
  split
  · exact h.mono (Nat.le_refl _) (by omega)
  · exact h.hand
theorem BdG.write {fail serr : Int} {s : OS} {n k : Nat} {lim : Int} {b : List UInt8} (h : BdG s n k) : BdG (writeS lim fail serr s b) (n + b.length) (k + 1) := by
  have h2 : BdG (keepS s b) (n + b.length) k := ⟨h.1, by have := h.2.1; simp [keepS]; omega, h.2.2⟩
  unfold writeS
  split
  · exact h.mono (by omega) (by omega)
  · split
    · exact h2.mono (Nat.le_refl _) (by omega)
    · exact h2.hand
end Go.Proofs.YtmmajabfmhipeaaDoor
