/- Part of the proofs over this seat: see the text that holds the theorem. Conditions: each theorem bears its own. -/
import Derived.Test.YtafbigmneipkiaaDoorBG3
import Derived.Test.YtafbigmneipkiaaDoorBW7
namespace Go.HL
theorem OwnL.one {α : Type} {E : α → List Value} {k T : Nat} {s : Sl α} {xs : List α} {S : Hp} (h : OwnS E k T s.v xs S) : OwnL E k T [s] [xs] S := by simpa using OwnL.cons h .nil
end Go.HL
namespace Go.Proofs.YtafbigmneipkiaaDoor
open Go Go.HL Go.Proofs Go.Tab Go.HL.Kl Go.HL.Kl.Bk
theorem bracketPrints_fn (c d : Cl) : HL.Fn Tryd.prog 7 [.agg (Ec c).toArray, .agg (Ec d).toArray] (TbB []) [] (fun v _ => v = .bool true) := by
  refine fn_of Tryd.func7 rfl rfl rfl fun w0 hw => ?_
  have hT := hw
  have hpc := print_len c
  have hpd := print_len d
  refine c_seq fun _ hK1 => ?_
  refine c_region ?_
  refine o_box rfl rfl rfl fun b2 => ?_
  refine o_box rfl rfl rfl fun b3 => ?_
  refine o_step rfl (s_assign rfl) ?_
  refine o_nil ?_
  refine x_then (hK1 _ _ ?_)
  refine c_seq fun _ hK2 => ?_
  refine c_region ?_
  refine o_callP (works_fn) rfl rfl rfl (fun w st => tbB_of hT st HSub.nil) (fun v11 hv11 => ?_)
  subst hv11
  refine o_step rfl (s_assign rfl) ?_
  refine o_nil ?_
  refine x_then (hK2 _ _ ?_)
  refine c_seq fun _ hK3 => ?_
  refine c_region ?_
  refine o_step rfl (s_ldB rfl (RdPK.cels (.own meA)) (Ec_len _)) ?_
  refine o_call (print_fn c) rfl rfl rfl (by exact .nil) (fun w st => tbB_of hT st HSub.nil) (fun v13 S13 ⟨a13, c13, hv13, hS13⟩ => ?_)
  subst hv13
  refine o_step rfl (s_assign rfl) ?_
  refine o_nil ?_
  refine x_then (hK3 _ _ ?_)
  refine c_seq fun _ hK4 => ?_
  refine c_region ?_
  refine o_step rfl (s_ldB rfl (RdPK.cels (.own meA)) (Ec_len _)) ?_
  refine o_call (print_fn d) rfl rfl rfl (by exact .nil) (fun w st => tbB_of hT st HSub.nil) (fun v15 S15 ⟨a15, c15, hv15, hS15⟩ => ?_)
  subst hv15
  refine o_step rfl (s_assign rfl) ?_
  refine o_nil ?_
  refine x_then (hK4 _ _ ?_)
  refine c_seq fun _ hK5 => ?_
  refine c_region ?_
  refine o_step rfl (s_ldB rfl (RdPK.cels (.own meA)) (Ec_len _)) ?_
  refine o_call (print_fn c) rfl rfl rfl (by exact .nil) (fun w st => tbB_of hT st HSub.nil) (fun v17 S17 ⟨a17, c17, hv17, hS17⟩ => ?_)
  subst hv17
  refine o_step rfl (s_assign rfl) ?_
  refine o_nil ?_
  refine x_then (hK5 _ _ ?_)
  refine c_seq fun _ hK6 => ?_
  refine c_region ?_
  refine o_step rfl (s_ldB rfl (RdPK.cels (.own meA)) (Ec_len _)) ?_
  refine o_call (rPrint_fn c) rfl rfl rfl (by exact .nil) (fun _ _ => trivial) (fun v19 S19 ⟨a19, c19, hv19, hS19⟩ => ?_)
  subst hv19
  refine o_step rfl (s_assign rfl) ?_
  refine o_nil ?_
  refine x_then (hK6 _ _ ?_)
  refine c_seq fun _ hK7 => ?_
  refine c_seq fun _ hK8 => ?_
  refine c_region ?_
  refine o_step rfl (s_move rfl) ?_
  refine o_step rfl (s_not rfl) ?_
  refine o_step rfl (s_move rfl) ?_
  refine o_yes rfl rfl ?_
  refine o_step rfl (s_move rfl) ?_
  refine o_yes rfl rfl ?_
  refine o_step rfl (s_move rfl) ?_
  refine o_yes rfl rfl ?_
  refine o_callP (eqMarks_fn a13 a19 c13 c19 (printP c) (printP c)) rfl rfl rfl (fun w st => ⟨(hS13.rdk hiA).out w st, (hS19.rdk hiA).out w st⟩) (fun v25 hv25 => ?_)
  rw [decide_eq_true rfl] at hv25
  subst hv25
  refine o_yes rfl rfl ?_
  refine o_step rfl (s_not rfl) ?_
  refine o_step rfl (s_pick_f rfl rfl) ?_
  refine o_step rfl (s_move rfl) ?_
  refine o_yes rfl rfl ?_
  refine o_step rfl (s_move rfl) ?_
  refine o_yes rfl rfl ?_
  refine o_step rfl (s_move rfl) ?_
  refine o_yes rfl rfl ?_
  refine o_callP (eqMarks_fn a17 a19 c17 c19 (printP c) (printP c)) rfl rfl rfl (fun w st => ⟨(hS17.rdk hiA).out w st, (hS19.rdk hiA).out w st⟩) (fun v31 hv31 => ?_)
  rw [decide_eq_true rfl] at hv31
  subst hv31
  refine o_yes rfl rfl ?_
  refine o_step rfl (s_not rfl) ?_
  refine o_step rfl (s_pick_f rfl rfl) ?_
  refine o_step rfl (s_move rfl) ?_
  refine o_yes rfl rfl ?_
  refine o_step rfl (s_move rfl) ?_
  refine o_yes rfl rfl ?_
  refine o_step rfl (s_ldB rfl (RdPK.cels (.own meA)) (Ec_len _)) ?_
  refine o_yes rfl rfl ?_
  refine o_call (rPrint_fn d) rfl rfl rfl (by exact .nil) (fun _ _ => trivial) (fun v37 S37 ⟨a37, c37, hv37, hS37⟩ => ?_)
  subst hv37
  refine o_yes rfl rfl ?_
  refine o_callP (eqMarks_fn a15 a37 c15 c37 (printP d) (printP d)) rfl rfl rfl (fun w st => ⟨(hS15.rdk hiA).out w st, (hS37.rdk hiA).out w st⟩) (fun v38 hv38 => ?_)
  rw [decide_eq_true rfl] at hv38
  subst hv38
  refine o_yes rfl rfl ?_
  refine o_step rfl (s_not rfl) ?_
  refine o_step rfl (s_pick_f rfl rfl) ?_
  refine o_nil ?_
  refine x_then (hK8 _ _ ?_)
  refine c_false rfl ?_
  refine c_skip ?_
  refine x_then (hK7 _ _ ?_)
  refine c_seq fun _ hK9 => ?_
  refine c_region ?_
  refine o_step rfl (step_cast (v' := .agg (List.replicate 19 (Value.slice none 0 0)).toArray) (s_build (cs := [_, _, _, _, _, _, _, _, _, _, _, _, _, _, _, _, _, _, _]) (vs := []) rfl rfl .nil) rfl) ?_
  refine o_box rfl rfl rfl fun b42 => ?_
  refine o_step rfl (s_assign rfl) ?_
  refine o_nil ?_
  refine x_then (hK9 _ _ ?_)
  refine c_seq fun _ hK10 => ?_
  refine c_region ?_
  refine o_step rfl (s_move rfl) ?_
  refine o_step rfl (s_move rfl) ?_
  refine o_call (addMarks_fn b42 (List.replicate 19 (Value.slice none 0 0)) [] (⟨a13, c13, printP c⟩ : Sl Mk) _ _ _ (by rfl) (by simp) .nil) rfl rfl rfl pkA (fun _ _ => trivial) (fun v45 S45 ⟨a45, c45, So45, hv45, hS45⟩ => ?_)
  subst hv45
  refine o_nil ?_
  refine x_then (hK10 _ _ ?_)
  refine c_seq fun _ hK11 => ?_
  refine c_region ?_
  refine o_step rfl (s_move rfl) ?_
  refine o_step rfl (s_move rfl) ?_
  refine o_call (addMarks_fn b42 ((List.replicate 19 (Value.slice none 0 0)).set 4 (.slice a45 ([] ++ [(⟨a13, c13, printP c⟩ : Sl Mk)]).length c45)) _ (⟨a15, c15, printP d⟩ : Sl Mk) _ _ _ (by rfl) (by simp) hS45) rfl rfl rfl pkA (fun _ _ => trivial) (fun v48 S48 ⟨a48, c48, So48, hv48, hS48⟩ => ?_)
  subst hv48
  refine o_nil ?_
  refine x_then (hK11 _ _ ?_)
  refine c_seq fun _ hK12 => ?_
  refine c_region ?_
  refine o_step rfl (s_move rfl) ?_
  refine o_step rfl (s_move rfl) ?_
  refine o_call (addMarks_fn b42 (((List.replicate 19 (Value.slice none 0 0)).set 4 (.slice a45 ([] ++ [(⟨a13, c13, printP c⟩ : Sl Mk)]).length c45)).set 4 (.slice a48 (([] ++ [(⟨a13, c13, printP c⟩ : Sl Mk)]) ++ [(⟨a15, c15, printP d⟩ : Sl Mk)]).length c48)) _ (⟨a17, c17, printP c⟩ : Sl Mk) _ _ _ (by rfl) (by simp) hS48) rfl rfl rfl pkA (fun _ _ => trivial) (fun v51 S51 ⟨a51, c51, So51, hv51, hS51⟩ => ?_)
  subst hv51
  refine o_nil ?_
  refine x_then (hK12 _ _ ?_)
  refine c_seq fun _ hK13 => ?_
  refine c_region ?_
  refine o_step rfl (s_move rfl) ?_
  have hz3 : ∀ i, i < 19 → i ≠ 4 → ((((List.replicate 19 (Value.slice none 0 0)).set 4 (.slice a45 ([] ++ [(⟨a13, c13, printP c⟩ : Sl Mk)]).length c45)).set 4 (.slice a48 (([] ++ [(⟨a13, c13, printP c⟩ : Sl Mk)]) ++ [(⟨a15, c15, printP d⟩ : Sl Mk)]).length c48)).set 4 (.slice a51 ((([] ++ [(⟨a13, c13, printP c⟩ : Sl Mk)]) ++ [(⟨a15, c15, printP d⟩ : Sl Mk)]) ++ [(⟨a17, c17, printP c⟩ : Sl Mk)]).length c51))[i]? = some (.slice none 0 0) := fun i h1 h2 => by rw [List.getElem?_set_ne (Ne.symm h2), List.getElem?_set_ne (Ne.symm h2), List.getElem?_set_ne (Ne.symm h2), List.getElem?_replicate, if_pos h1]
  have hl3 : ∀ (j : Nat) (s : Sl Mk), ((([] ++ [(⟨a13, c13, printP c⟩ : Sl Mk)]) ++ [(⟨a15, c15, printP d⟩ : Sl Mk)]) ++ [(⟨a17, c17, printP c⟩ : Sl Mk)])[j]? = some s → s.xs.length ≤ 4294967296 := fun j s hs => by
   rcases j with _ | _ | _ | j
   · cases hs; show (printP c).length ≤ _; omega
   · cases hs; show (printP d).length ≤ _; omega
   · cases hs; show (printP c).length ≤ _; omega
   · simp at hs
  refine o_call (apart_fn b42 ((((List.replicate 19 (Value.slice none 0 0)).set 4 (.slice a45 ([] ++ [(⟨a13, c13, printP c⟩ : Sl Mk)]).length c45)).set 4 (.slice a48 (([] ++ [(⟨a13, c13, printP c⟩ : Sl Mk)]) ++ [(⟨a15, c15, printP d⟩ : Sl Mk)]).length c48)).set 4 (.slice a51 ((([] ++ [(⟨a13, c13, printP c⟩ : Sl Mk)]) ++ [(⟨a15, c15, printP d⟩ : Sl Mk)]) ++ [(⟨a17, c17, printP c⟩ : Sl Mk)]).length c51)) ((([] ++ [(⟨a13, c13, printP c⟩ : Sl Mk)]) ++ [(⟨a15, c15, printP d⟩ : Sl Mk)]) ++ [(⟨a17, c17, printP c⟩ : Sl Mk)]) _ _ So51 (S13 ++ (S15 ++ S17)) (by rfl) (fun i h1 h2 => hz3 i h1 h2) (by simp) (fun j s hs => hl3 j s hs) hS51 (.cons hS13 (.cons hS15 (OwnL.one hS17)))) rfl rfl rfl ((Pick.takeC pkA (Pick.takeA pkA (Pick.takeA pkA (Pick.takeA pkA pkA))))) (fun _ _ => trivial) (fun v53 S53 ⟨hv53, hS53⟩ => ?_)
  subst hv53
  subst hS53
  refine o_step rfl (s_move rfl) ?_
  refine o_yes rfl rfl ?_
  refine o_step rfl (s_ldB rfl (RdPK.cels (.own meA)) (Ec_len _)) ?_
  refine o_yes rfl rfl ?_
  refine o_call (print_fn c) rfl rfl rfl (by exact .nil) (fun w st => tbB_of hT st HSub.nil) (fun v56 S56 ⟨a56, c56, hv56, hS56⟩ => ?_)
  subst hv56
  refine o_yes rfl rfl ?_
  refine o_step rfl (s_move rfl) ?_
  refine o_yes rfl rfl ?_
  refine o_callP (eqMarks_fn a56 a19 c56 c19 (printP c) (printP c)) rfl rfl rfl (fun w st => ⟨(hS56.rdk hiA).out w st, (hS19.rdk hiA).out w st⟩) (fun v58 hv58 => ?_)
  rw [decide_eq_true rfl] at hv58
  subst hv58
  refine o_step rfl (s_pick_t rfl rfl) ?_
  refine o_step rfl (s_assign rfl) ?_
  refine o_nil ?_
  refine x_then (hK13 _ _ ?_)
  refine c_ret ?_
  refine ?_
  exact x_ret rfl (.tmp rfl (.nil)) (rfl)
end Go.Proofs.YtafbigmneipkiaaDoor
